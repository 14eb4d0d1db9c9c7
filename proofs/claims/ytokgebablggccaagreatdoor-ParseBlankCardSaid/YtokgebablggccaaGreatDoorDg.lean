/- contracts of functions; no condition -/
import Derived.Test.YtokgebablggccaaGreatDoorDe
import Derived.Test.YtokgebablggccaaGreatDoorDf
import Derived.Test.YtokgebablggccaaGreatDoorSxb
set_option linter.unusedVariables false
set_option linter.unusedSimpArgs false
set_option maxRecDepth 100000
set_option maxHeartbeats 1000000
namespace Go.Proofs.lv
open Go aJ Go.Proofs lp iI
variable {a b c d:Nat}{all:List bP}{h:I}{l:List (List UInt8)}
variable {Q:cl->bD->Prop} {R:a8->Prop} (call:e0)
theorem agx(p c N a k n w q:Nat)(s:List UInt8)(h aS:I)
  (H1:aC (I.room (I.push h (aD [ad 0,.str [],ad 0,ad 0] 76)) 11) p (0+0)=some (.slice c 0 N (.aX 4)))
  (a4:aC (I.room (I.push h (aD [ad 0,.str [],ad 0,ad 0] 76)) 11) p (0+1)=some (ad a))
  (bh:Nat.le (Nat.succ a) N/\aa.ptr c q=aa.ptr c (0+a*4))
  (bx:aJ.loadCells (I.room (I.push h (aD [ad 0,.str [],ad 0,ad 0] 76)) 11) c q 4=some [ad k,.str s,ad n,ad w])
  (bW:aJ.storeCells (I.room (I.push h (aD [ad 0,.str [],ad 0,ad 0] 76)) 11) (I.n h) 0 [ad k,.str s,ad n,ad w]=some aS):
  a0 an Tryz.f20 none call [] (az [(0,af p)] h) (.ret)
   (az [(2,af (I.n h))] aS):=
 bA [2] [.v (.slice c 0 N (.aX 4)),.v (ad a),.v (.ptr c q),.v (.agg [ad k,.str s,ad n,ad w]),.cU (.aF []) aS] 256 25 0x20304050607080708090a0b02070807080c0d0e030f041005 (dN H1 a4 bh bx (⟨by kernel_rfl,bW,rfl⟩:some 4=some 4/\aJ.storeCells (I.room (I.push h (b5.cells [ad 0,aa.str [],ad 0,ad 0] 76 ff.own 0 0)) 11) (I.n h) 0 [ad k,aa.str s,ad n,ad w]=some aS/\aa.aF []=aa.aF []) (b4 (af p)) (ck (af p)) (b4 (.ptr p (0+0))) (ck (.ptr p (0+0)))<|qh (b4 (.slice c 0 N (dn.aX 4))) (b4 (.ptr p (0+1))) (ck (.ptr p (0+1))) (b4 (ad a)) (b4 (.ptr c q)) (b4 (.agg [ad k,.str s,ad n,ad w])) bz)
theorem agy(b n:Nat)(cp:dn)(s:List UInt8)(h:I):
  a0 an Tryz.f135 none call [1,0,0] (az [(0,.slice b 0 n cp),(1,.str s)] h) (.nrm)
   (az [(0,.slice b 0 n cp),(1,.str s),(7,ad n),(8,ad 0)] h):=
 bA [0,1,7,8] [] 16 0 0 bz
theorem agz(b n i q:Nat)(cp:dn)(s t:List UInt8)(h:I)
  (H1:cz i n=true)
  (a4:Nat.le (Nat.succ i) n/\aa.ptr b q=aa.ptr b (0+i*1))
  (bh:aC h b q=some (.str t))
  (bx:gb s t=true):
  a0 an Tryz.f135 none call [1,0,1,0,0] (az [(0,.slice b 0 n cp),(1,.str s),(7,ad n),(8,ad i)] h) (.ret)
   (az [(0,.slice b 0 n cp),(1,.str s),(4,ad i),(7,ad n),(8,ad i)] h):=
 bA [0,1,4,7,8] [.b true,.v (.ptr b q),.v (.str t),.b true] 16 4 9029 (jt H1 a4 bh bx bz)
theorem agA(b n i q:Nat)(cp:dn)(s t:List UInt8)(h:I)(aP:Nat)
  (H1:cz i n=true)
  (a4:Nat.le (Nat.succ i) n/\aa.ptr b q=aa.ptr b (0+i*1))
  (bh:aC h b q=some (.str t))
  (bx:gb s t=false)
  (bW:arith .add .i64 (.ofNat i) (.ofNat 1)=some (ad aP)):
  a0 an Tryz.f135 none call [1,0,1,0,0] (az [(0,.slice b 0 n cp),(1,.str s),(7,ad n),(8,ad i)] h) (.nrm)
   (az [(0,.slice b 0 n cp),(1,.str s),(7,ad n),(8,ad aP)] h):=
 bA [0,1,4,7,8] [.b true,.v (.ptr b q),.v (.str t),.b false,.v (ad aP)] 16 5 144470 (nM H1 a4 bh bx bW bz)
theorem agB(b n i q:Nat)(cp:dn)(s t:List UInt8)(h:I)
  (H1:cz i n=false):
  a0 an Tryz.f135 none call [1,0,1,0,0] (az [(0,.slice b 0 n cp),(1,.str s),(7,ad n),(8,ad i)] h) (.exit 0)
   (az [(0,.slice b 0 n cp),(1,.str s),(7,ad n),(8,ad i)] h):=
 bA [0,1,4,7,8] [.b false] 16 1 2 (hU H1 bz)
theorem agC(h:I):
  a0 an Tryz.f135 none call [1,1] (az [] h) (.ret)
   (az [(4,.int .i64 (.negSucc 0))] h):=
 bA [4] [] 16 0 0 bz
theorem agD(b n i:Nat)(cp:dn)(s:List UInt8)(h:I)
  (H1:call (.fn 135) [.slice b 0 n cp,.str s] h=a8.ret (ad i) h):
  a0 an Tryz.f115 none call [] (az [(0,.slice b 0 n cp),(1,.str s)] h) (.ret)
   (az [(4,.bool (eQ 0 i))] h):=
 bA [4] [.c (ad i) h] 16 1 2 (hU H1 bz)
theorem agE(b n:Nat)(cp:dn)(s:List UInt8)(h:I)
  (H1:call (.fn 135) [.slice b 0 n cp,.str s] h=a8.ret (.int .i64 (.negSucc 0)) h):
  a0 an Tryz.f115 none call [] (az [(0,.slice b 0 n cp),(1,.str s)] h) (.ret)
   (az [(4,.bool (mo (.ofNat 0) (.negSucc 0)))] h):=
 bA [4] [.c (.int .i64 (.negSucc 0)) h] 16 1 2 (hU H1 bz)
theorem agF(p b N k n w:Nat)(cp:dn)(s:List UInt8)(h g aS:I)
  (H1:call (.fn 20) [af p] h=a8.ret (.agg [ad k,.str s,ad n,ad w]) g)
  (a4:aJ.storeCells (I.push g (aD [ad 0,.str [],ad 0,ad 0] 76)) (I.n g) 0 [ad k,.str s,ad n,ad w]=some aS):
  a0 an Tryz.f83 none call [1,0] (az [(0,af p),(1,.slice b 0 N cp)] h) (.nrm)
   (az [(1,.slice b 0 N cp),(5,af (I.n g))] aS):=
 bA [1,5] [.c (.agg [ad k,.str s,ad n,ad w]) g,.cU (.aF []) aS] 16 2 35 (kP H1 (⟨by kernel_rfl,a4,rfl⟩:some 4=some 4/\aJ.storeCells (I.push g (b5.cells [ad 0,aa.str [],ad 0,ad 0] 76 ff.own 0 0)) (I.n g) 0 [ad k,aa.str s,ad n,ad w]=some aS/\aa.aF []=aa.aF []) bz)
theorem agG(r b N k:Nat)(cp:dn)(s:List UInt8)(x:Bool)(h:I)
  (H1:aC h r (0+0)=some (ad k))
  (a4:dA k 2=true)
  (bh:aC h r (0+1)=some (.str s))
  (bx:call (.fn 115) [.slice b 0 N cp,.str s] h=a8.ret (.bool x) h):
  a0 an Tryz.f83 none call [1,1] (az [(1,.slice b 0 N cp),(5,af r)] h) (.ret)
   (az [(4,.bool x)] h):=
 bA [4] (.v (ad k)::cY 7 127 [.v (.str s),.b true,.c (.bool x) h,.b true]) 16 12 38702755627088 (jt H1 a4 bh bx bz)
theorem agH(r b N k:Nat)(cp:dn)(s:List UInt8)(x:Bool)(h:I)
  (H1:aC h r (0+0)=some (ad k))
  (a4:dA k 2=false)
  (bh:dA k 5=true)
  (bx:aC h r (0+1)=some (.str s))
  (bW:call (.fn 115) [.slice b 0 N cp,.str s] h=a8.ret (.bool x) h):
  a0 an Tryz.f83 none call [1,1] (az [(1,.slice b 0 N cp),(5,af r)] h) (.ret)
   (az [(4,.bool x)] h):=
 bA [4] (.v (ad k)::cY 2 0 (.v (ad k)::cY 5 7 [.v (.str s),.b true,.c (.bool x) h,.b true])) 16 13 619176247186532 (nM H1 a4 bh bx bW bz)
theorem agI(r b N k:Nat)(cp:dn)(h:I)
  (H1:aC h r (0+0)=some (ad k))
  (a4:dA k 2=false)
  (bh:dA k 5=false):
  a0 an Tryz.f83 none call [1,1] (az [(1,.slice b 0 N cp),(5,af r)] h) (.ret)
   (az [(4,.bool false)] h):=
 bA [4] (.v (ad k)::cY 2 0 (.v (ad k)::cY 7 0 [])) 16 11 2418657215556 (m9 H1 a4 bh bz)
theorem agJ(p b N a:Nat)(cp:dn)(h g al:I)
  (H1:call (.fn 83) [af p,.slice b 0 N cp] h=a8.ret (.bool true) g)
  (a4:aC g p (0+1)=some (ad a))
  (bh:arith .add .i64 (.ofNat a) (.ofNat 1)=some (ad (a+1)))
  (bx:aJ.storeCells g p (0+1) [ad (a+1)]=some al):
  a0 an Tryz.f38 none call [] (az [(0,af p),(1,.slice b 0 N cp)] h) (.ret)
   (az [(4,.bool true)] al):=
 bA [4] [.c (.bool true) g,.b true,.v (ad a),.v (ad (a+1)),.cU (.aF []) al] 16 5 131909 (jt H1 a4 bh (⟨by kernel_rfl,bx,rfl⟩:some 1=some 1/\aJ.storeCells g p (0+1) [ad (a+1)]=some al/\aa.aF []=aa.aF []) bz)
theorem agK(p b N:Nat)(cp:dn)(h g:I)
  (H1:call (.fn 83) [af p,.slice b 0 N cp] h=a8.ret (.bool false) g):
  a0 an Tryz.f38 none call [] (az [(0,af p),(1,.slice b 0 N cp)] h) (.ret)
   (az [(4,.bool false)] g):=
 bA [4] [.c (.bool false) g,.b false] 16 2 33 (hU H1 bz)
theorem agL(p e k n w:Nat)(s:List UInt8)(h g:I)
  (H1:call (.fn 20) [af p] h=a8.ret (.agg [ad k,.str s,ad n,ad w]) g):
  a0 an Tryz.f44 none call [] (az [(0,af p),(1,ad e)] h) (.aK (.iface 70 (.agg [af (I.n g)])))
   (az [] (I.push g (aD [ad e,ad w] 31))):=
 bA [] [.c (.agg [ad k,.str s,ad n,ad w]) g] 16 1 2 (hU H1 bz)
theorem agM(p:Nat)(s:List UInt8)(h g:I)
  (H1:call (.fn 38) [af p,.slice (I.n h) 0 1 (.exact 1)] (I.push h (aD [.str s] 9))=a8.ret (.bool true) g):
  a0 an Tryz.f40 none call [] (az [(0,af p),(1,.str s)] h) (.nrm)
   (az [] g):=
 bA [] [.c (.bool true) g,.b false] 16 2 35 (kP H1 (by kernel_rfl:(!true)=false) bz)
theorem agN(p:Nat)(s:List UInt8)(v:aa)(h g al:I)
  (H1:call (.fn 38) [af p,.slice (I.n h) 0 1 (.exact 1)] (I.push h (aD [.str s] 9))=a8.ret (.bool false) g)
  (a4:call (.fn 44) [af p,ad 10] g=a8.aK v al):
  a0 an Tryz.f40 none call [] (az [(0,af p),(1,.str s)] h) (.aK v)
   (az [] al):=
 bA [] [.c (.bool false) g,.b true,.p v al] 16 3 564 (m9 H1 (by kernel_rfl:(!false)=true) a4 bz)
theorem agO(b n:Nat)(cp:dn)(s:List UInt8)(h:I):
  a0 an Tryz.f135 none call [0] (az [(0,.slice b 0 n cp),(1,.str s)] h) (.nrm)
   (az [(0,.slice b 0 n cp),(1,.str s)] h):=
 bA [0,1] [] 16 0 0 bz
theorem agP(p b n:Nat)(cp:dn)(h:I):
  a0 an Tryz.f83 none call [0] (az [(0,af p),(1,.slice b 0 n cp)] h) (.nrm)
   (az [(0,af p),(1,.slice b 0 n cp)] h):=
 bA [0,1] [] 16 0 0 bz
theorem LW(p k d_ n w:Nat)(s:List UInt8)(h g al:I)(gP:aa)(aS:I)
  (H1:call (.fn 20) [af p] (I.push h (aD [ad 0,.str [],ad 0,ad 0] 76))=a8.ret (.agg [ad k,.str s,ad n,ad w]) g)
  (a4:aJ.storeCells (I.push g (aD [ad 0,.str [],ad 0,ad 0] 76)) (I.n g) 0 [ad k,.str s,ad n,ad w]=some al)
  (bh:aC al (I.n g) (0+0)=some (ad k))
  (bx:(!dA k d_)=true)
  (bW:call (.fn 44) [af p,ad 10] al=a8.aK gP aS):
  a0 an Tryz.f39 none call [] (az [(0,af p),(1,ad d_)] h) (.aK gP)
   (az [(4,af (I.n h))] aS):=
 bA [4] [.c (.agg [ad k,.str s,ad n,ad w]) g,.cU (.aF []) al,.v (ad k),.b true,.p gP aS] 16 5 144470 (nM H1 (⟨by kernel_rfl,a4,rfl⟩:some 4=some 4/\aJ.storeCells (I.push g (b5.cells [ad 0,aa.str [],ad 0,ad 0] 76 ff.own 0 0)) (I.n g) 0 [ad k,aa.str s,ad n,ad w]=some al/\aa.aF []=aa.aF []) bh bx bW bz)
theorem LX(p k d_ n w:Nat)(s:List UInt8)(h g al:I)(aP aY:Nat)(aS:I)(ba:Nat)(bS:List UInt8)(cd db:Nat)(cV:I)
  (H1:call (.fn 20) [af p] (I.push h (aD [ad 0,.str [],ad 0,ad 0] 76))=a8.ret (.agg [ad k,.str s,ad n,ad w]) g)
  (a4:aJ.storeCells (I.push g (aD [ad 0,.str [],ad 0,ad 0] 76)) (I.n g) 0 [ad k,.str s,ad n,ad w]=some al)
  (bh:aC al (I.n g) (0+0)=some (ad k))
  (bx:(!dA k d_)=false)
  (bW:aC al p (0+1)=some (ad aP))
  (cA:arith .add .i64 (.ofNat aP) (.ofNat 1)=some (ad aY))
  (c2:aJ.storeCells al p (0+1) [ad aY]=some aS)
  (di:aJ.loadCells aS (I.n g) 0 4=some [ad ba,.str bS,ad cd,ad db])
  (eE:aJ.storeCells aS (I.n h) 0 [ad ba,.str bS,ad cd,ad db]=some cV):
  a0 an Tryz.f39 none call [] (az [(0,af p),(1,ad d_)] h) (.ret)
   (az [(4,af (I.n h))] cV):=
 bA [4] [.c (.agg [ad k,.str s,ad n,ad w]) g,.cU (.aF []) al,.v (ad k),.b false,.v (ad aP),.v (ad aY),.cU (.aF []) aS,.v (.agg [ad ba,.str bS,ad cd,ad db]),.cU (.aF []) cV] 16 9 9468016794 (dN H1 (⟨by kernel_rfl,a4,rfl⟩:some 4=some 4/\aJ.storeCells (I.push g (b5.cells [ad 0,aa.str [],ad 0,ad 0] 76 ff.own 0 0)) (I.n g) 0 [ad k,aa.str s,ad n,ad w]=some al/\aa.aF []=aa.aF []) bh bx bW cA (⟨by kernel_rfl,c2,rfl⟩:some 1=some 1/\aJ.storeCells al p (0+1) [ad aY]=some aS/\aa.aF []=aa.aF []) di (⟨by kernel_rfl,eE,rfl⟩:some 4=some 4/\aJ.storeCells aS (I.n h) 0 [ad ba,aa.str bS,ad cd,ad db]=some cV/\aa.aF []=aa.aF []) bz)
theorem agQ(p n w:Nat)(s:List UInt8)(h g:I)
  (H1:call (.fn 39) [af p,ad 1] h=a8.ret (.agg [ad 1,.str s,ad n,ad w]) g):
  a0 an Tryz.f41 none call [] (az [(0,af p)] h) (.ret)
   (az [(2,.str s)] g):=
 bA [2] [.c (.agg [ad 1,.str s,ad n,ad w]) g] 16 1 2 (hU H1 bz)
theorem agR(p:Nat)(v:aa)(h g:I)
  (H1:call (.fn 39) [af p,ad 1] h=a8.aK v g):
  a0 an Tryz.f41 none call [] (az [(0,af p)] h) (.aK v)
   (az [] g):=
 bA [] [.p v g] 16 1 2 (hU H1 bz)
noncomputable def fc:Nat->List aa->I->Option (aa×I):=oF (oF (y0 dL ku [Bj,amO]) tV) (oF (Dq ku) (Dr ku))
theorem agS(aM:Fit an):kJ an fc:=wY (wY (aaX aM qv u7.g λe he=>by
 rcases List.mem_cons.1 he with rfl|he
 · exact afF aM
 · obtain rfl:=List.mem_singleton.1 he;exact amS aM) (Hq aM)) (wY (K2 u7) (K7 u7))
noncomputable def Z(n:Nat):e0:=eA an fc n
abbrev oQ(c N a d:Nat):b5:=aD [.slice c 0 N (.aX 4),ad a,ad d] 74
structure cL(p c:Nat)(all:List bP)(a d:Nat)(h:I):Prop where
 par:h.get p=some (oQ c all.length a d)
 row:h.get c=some (.cells (eK fm all) 76 .aX 0 0)
 cM:p<h.n
 gq:c<h.n
 lt:a<all.length
theorem cL.ext{p:Nat}{B:Nat}{g:I}(w:cL p c all a d h)(e:Ext B h g)(eU:h.n<=B):cL p c all a d g:=
 ⟨(e.get p (by have:=w.cM;omega)).trans w.par,(e.get c (by have:=w.gq;omega)).trans w.row,Nat.lt_of_lt_of_le w.cM e.n,Nat.lt_of_lt_of_le w.gq e.n,w.lt⟩
theorem cL.ne{p:Nat}(w:cL p c all a d h):¬c=p:=λe=>by
 have J:=w.par
 have ae:=w.row
 rw[e,J] at ae
 injection ae with ae
 injection ae with _ _ aq
 cases aq
theorem cL.set{p:Nat}{a6 bT:Nat}(w:cL p c all a d h)(a_:a6<all.length):cL p c all a6 bT (h.set p (some (oQ c all.length a6 bT))):=
 ⟨dz rfl,cr w.ne w.row,w.cM,w.gq,a_⟩
structure Src(all:List bP):Prop where
 len:all.length<=90000
 pos:0<all.length
 fin:(fO.bR all (all.length-1)).k=0
theorem Src.lt(ah:Src all)(a_:a<all.length)(ai:¬(fO.bR all a).k=0):a+1<all.length:=by
 rcases Nat.lt_or_ge (a+1) all.length with h|h
 · exact h
 · have:a=all.length-1:=by omega
   rw[this] at ai
   exact absurd ah.fin ai
theorem agT(l:List bP):∀(i:Nat) (rest:List aa),i<l.length->takeN 4 (lC (0+i*4) (eK fm l++rest))=some (fm (fO.bR l i)):=by
 induction l with
 |nil=>intro i rest hi;simp at hi
 |cons t l bM=>
  intro i rest hi
  rw[yw,List.append_assoc]
  cases i with
  |zero=>rfl
  |succ i=>
   have e:0+(i+1)*4=(0+i*4)+1+1+1+1:=by omega
   rw[e]
   exact bM i rest (by simpa using hi)
theorem oR(m:Nat){p:Nat}(w:cL p c all a d h):
  ∃g,Z (m+1) (.fn 20) [.ptr p 0] h=.ret (.agg (fm (fO.bR all a))) g/\Ext h.n h g:=by
 obtain⟨t,aI⟩:∃t,t=fO.bR all a:=⟨_,rfl⟩
 have a3:=w.cM
 have ak:=w.gq
 have dO:((h.push (aD [ad 0,.str [],ad 0,ad 0] 76)).room 11).get p=some (oQ c all.length a d):=AF (gN a3 w.par)
 have gc:((h.push (aD [ad 0,.str [],ad 0,ad 0] 76)).room 11).get c=some (.cells (eK fm all) 76 .aX 0 0):=AF (gN ak w.row)
 have gt:((h.push (aD [ad 0,.str [],ad 0,ad 0] 76)).room 11).get h.n=some (aD [ad 0,.str [],ad 0,ad 0] 76):=AF (dx rfl)
 have gE:=agT all a [] w.lt
 rw[List.append_nil] at gE
 have st:=agx (Z m) p c all.length a t.k t.v t.at' (0+a*4) t.t h _ (aN dO rfl) (aN dO rfl) ⟨w.lt,rfl⟩ (rk gc (by rw[gE,aI];rfl)) (cy gt rfl rfl)
 refine⟨_,eI (intr:=fc) (n:=m) (args:=[.ptr p 0]) Tryz.func20 st (.inl rfl) (Qz (t:=2) (ty:=76) (p:=h.n) (n:=4) (by kernel_rfl) (by kernel_rfl) (by kernel_rfl) (by kernel_rfl) (by kernel_rfl) (rk (dz rfl) (by rw[aI];rfl))),?_⟩
 exact(Ext.k4 (Nat.le_refl _) (Ext.refl _ _)).Kf.ix (Nat.le_refl _)
theorem Uo(call:e0)(b:Nat)(cp:dn)(l:List (List UInt8))(s:List UInt8)(h:I)(aT:l.length<=1000)(aA:∀i (hi:i<l.length),aC h b (0+i*1)=some (.str l[i])):∀(k i:Nat),l.length-i=k->i<=l.length->
  ((l.drop i).any (λw=>gb s w)=true/\∃j:Nat,eP an Tryz.f135 none call [1,0,1,0] (k+1) ⟨[(0,.slice b 0 l.length cp),(1,.str s),(7,ad l.length),(8,ad i)],[],.none,h⟩ .ret ⟨[(4,ad j)],[],.none,h⟩)\/
  ((l.drop i).any (λw=>gb s w)=false/\eP an Tryz.f135 none call [1,0,1,0] (k+1) ⟨[(0,.slice b 0 l.length cp),(1,.str s),(7,ad l.length),(8,ad i)],[],.none,h⟩ (.exit 0) ⟨[],[],.none,h⟩)
 |0,i,ai,hi=>by
  obtain rfl:i=l.length:=by omega
  exact .inr ⟨by rw[List.drop_length];rfl,.exit (dU.post (agB call b _ _ 0 cp s [] h (iR (by omega))) trivial) (by simp)⟩
 |k+1,i,ai,hi=>by
  have mK:i<l.length:=by omega
  rw[List.drop_eq_getElem_cons mK,List.any_cons]
  cases ab:gb s l[i] with
  |true=>exact .inl ⟨rfl,i,.exit (dU.post (agz call b _ i (0+i*1) cp s l[i] h (ib mK) ⟨mK,rfl⟩ (aA i mK) ab) ⟨rfl,trivial⟩) (by simp)⟩
  |false=>
   rw[Bool.false_or]
   have st:=agA call b _ i (0+i*1) cp s l[i] h (i+1) (ib mK) ⟨mK,rfl⟩ (aA i mK) ab (uF mK (by omega))
   rcases Uo call b cp l s h aT aA k (i+1) (by omega) (by omega) with⟨J,j,ae⟩|⟨J,ae⟩
   · exact .inl ⟨J,j,.step st ae⟩
   · exact .inr ⟨J,.step st ae⟩
theorem Up(s:List UInt8):∀l:List (List UInt8),(l.any λw=>gb s w)=l.contains s
 |[]=>rfl
 |w::l=>by rw[List.any_cons,List.contains_cons,Up s l,o_]
theorem agU(m b:Nat)(cp:dn)(l:List (List UInt8))(s:List UInt8)(h:I)(aT:l.length<=1000)(aA:∀i (hi:i<l.length),aC h b (0+i*1)=some (.str l[i])):
  Z (m+2) (.fn 115) [.slice b 0 l.length cp,.str s] h=.ret (.bool (l.contains s)) h:=by
 have az:=agO (Z m) b l.length cp s h
 have s1:=agy (Z m) b l.length cp s h
 rw[<-Up]
 rcases Uo (Z m) b cp l s h aT aA l.length 0 rfl (by omega) with⟨J,j,ae⟩|⟨J,ae⟩
 · rw[List.drop_zero] at J
   rw[J]
   have ho:=eP.run (p:=[1,0,1,0]) (by kernel_rfl) ae (by omega)
   have pJ:=a0.qc (p:=[1,0,1]) (id:=0) (by kernel_rfl) ho (by simp)
   have sy:Z (m+1) (.fn 135) [.slice b 0 l.length cp,.str s] h=.ret (ad j) h:=eI (intr:=fc) (n:=m) (args:=[.slice b 0 l.length cp,.str s]) Tryz.func135 (gG [] az (AK [1] (gG [1,0] s1 pJ) (by simp))) (.inl rfl) (by kernel_rfl)
   exact eI (intr:=fc) (n:=m+1) (args:=[.slice b 0 l.length cp,.str s]) Tryz.func115 (agD (Z (m+1)) b l.length j cp s h sy) (.inl rfl) (by rw[show eQ 0 j=true from by simp[eQ,mo]];kernel_rfl)
 · rw[List.drop_zero] at J
   rw[J]
   have ho:=eP.run (p:=[1,0,1,0]) (by kernel_rfl) ae (by omega)
   have pJ:=a0.block (p:=[1,0,1]) (id:=0) (by kernel_rfl) ho
   have sy:Z (m+1) (.fn 135) [.slice b 0 l.length cp,.str s] h=.ret (.int .i64 (Int.negSucc 0)) h:=eI (intr:=fc) (n:=m) (args:=[.slice b 0 l.length cp,.str s]) Tryz.func135 (gG [] az (gG [1] (gG [1,0] s1 pJ) (agC (Z m) h))) (.inl rfl) (by kernel_rfl)
   exact eI (intr:=fc) (n:=m+1) (args:=[.slice b 0 l.length cp,.str s]) Tryz.func115 (agE (Z (m+1)) b l.length cp s h sy) (.inl rfl) (by kernel_rfl)
abbrev mh:b5:=aD [ad 0,.str [],ad 0,ad 0] 76
abbrev HI(f:Nat×Nat):b5:=aD [ad f.1,ad f.2] 31
def cB(p c:Nat)(all:List bP)(d:Nat)(h:I)(f:Nat×Nat)(x:a8):Prop:=
 ∃e g a6,x=.aK (.iface 70 (.agg [.ptr e 0])) g/\g.get e=some (HI f)/\h.n<=e/\e<g.n/\cL p c all a6 d g/\bU p h.n h g
def Fin{α:Type}(p c:Nat)(all:List bP)(d:Nat)(h:I)(V:α->aa->I->Prop)(r:fO.bw α)(x:a8):Prop:=match r with
 |.ok (v,a)=>∃w g,x=.ret w g/\V v w g/\cL p c all a d g/\bU p h.n h g
 |.error f=>cB p c all d h f x
theorem HJ(m:Nat){p:Nat}(w:cL p c all a d h){cp:dn}(aT:l.length<=1000)(ag:b<h.n)(aA:∀i (hi:i<l.length),aC h b (0+i*1)=some (.str l[i])):
  ∃g,Z (m+3) (.fn 83) [.ptr p 0,.slice b 0 l.length cp] h=.ret (.bool (fO.dV all l a)) g/\Ext h.n h g:=by
 obtain⟨t,aI⟩:∃t,t=fO.bR all a:=⟨_,rfl⟩
 obtain⟨g,a9,bb⟩:=oR (m+1) w
 rw[<-aI] at a9
 have za:=bb.n
 have gt:(g.push mh).get g.n=some mh:=dx rfl
 obtain⟨y,bH⟩:∃y,y=(g.push mh).set g.n (some (aD (fm t) 76)):=⟨_,rfl⟩
 have az:=agP (Z (m+2)) p b l.length cp h
 have s1:=agF (Z (m+2)) p b l.length t.k t.v t.at' cp t.t h g y a9 (by rw[bH];exact cy gt rfl rfl)
 have ve:y.get g.n=some (aD (fm t) 76):=by rw[bH];exact dz rfl
 have lx:Ext h.n h y:=by rw[bH];exact(Ext.k4 (by omega) bb).ix (by omega)
 have agV:∀i (hi:i<l.length),aC y b (0+i*1)=some (.str l[i]):=λi hi=>by
  rw[<-aA i hi]
  unfold aC
  rw[lx.get b ag]
 have wD:=agU m b cp l t.t y aT agV
 have c_:fO.dV all l a=((t.k==2||t.k==5)&&l.contains t.t):=by rw[aI];rfl
 refine⟨y,?_,lx⟩
 have fin:∀x,a0 an Tryz.f83 none (Z (m+2)) [1,1] ⟨[(1,.slice b 0 l.length cp),(5,.ptr g.n 0)],[],.none,y⟩ .ret ⟨[(4,.bool x)],[],.none,y⟩->Z (m+3) (.fn 83) [.ptr p 0,.slice b 0 l.length cp] h=.ret (.bool x) y:=λx aj=>
  eI (intr:=fc) (n:=m+2) (args:=[.ptr p 0,.slice b 0 l.length cp]) Tryz.func83 (gG [] az (gG [1] s1 aj)) (.inl rfl) (by kernel_rfl)
 by_cases aZ:t.k=2
 · have aG:fO.dV all l a=l.contains t.t:=by rw[c_,aZ];rfl
   rw[aG]
   exact fin _ (agG (Z (m+2)) g.n b l.length t.k cp t.t _ y (aN ve rfl) (lO aZ) (aN ve rfl) wD)
 · by_cases gi:t.k=5
   · have aG:fO.dV all l a=l.contains t.t:=by rw[c_,gi];rfl
     rw[aG]
     exact fin _ (agH (Z (m+2)) g.n b l.length t.k cp t.t _ y (aN ve rfl) (fU aZ) (lO gi) (aN ve rfl) wD)
   · have aG:fO.dV all l a=false:=by
       rw[c_,show(t.k==2)=false from by simpa using aZ,show(t.k==5)=false from by simpa using gi];rfl
     rw[aG]
     exact fin _ (agI (Z (m+2)) g.n b l.length t.k cp y (aN ve rfl) (fU aZ) (fU gi))
theorem Uq(h:fO.dV all l a=true):¬(fO.bR all a).k=0:=λe=>by
 unfold fO.dV at h
 rw[e] at h
 cases h
theorem Bl(m:Nat){p:Nat}(ah:Src all)(w:cL p c all a d h){cp:dn}(aT:l.length<=1000)(ag:b<h.n)(aA:∀i (hi:i<l.length),aC h b (0+i*1)=some (.str l[i])):
  ∃g,Z (m+4) (.fn 38) [.ptr p 0,.slice b 0 l.length cp] h=.ret (.bool (fO.dV all l a)) g/\cL p c all (if fO.dV all l a then a+1 else a) d g/\bU p h.n h g:=by
 obtain⟨g,a9,bb⟩:=HJ m w aT ag aA
 have gr:=w.ext bb (Nat.le_refl _)
 cases ab:fO.dV all l a with
 |false=>
  rw[ab] at a9
  exact⟨g,eI (intr:=fc) (n:=m+3) (args:=[.ptr p 0,.slice b 0 l.length cp]) Tryz.func38 (agK (Z (m+3)) p b l.length cp h g a9) (.inl rfl) (by kernel_rfl),gr,bb.eb p⟩
 |true=>
  rw[ab] at a9
  have cf:=ah.lt w.lt (Uq ab)
  have hlen:=ah.len
  have st:=agJ (Z (m+3)) p b l.length a cp h g _ a9 (aN gr.par rfl) (uF (m:=100000) (by omega) (by decide)) (cy gr.par rfl rfl)
  exact⟨_,eI (intr:=fc) (n:=m+3) (args:=[.ptr p 0,.slice b 0 l.length cp]) Tryz.func38 st (.inl rfl) (by kernel_rfl),gr.set cf,(bb.eb p).qe⟩
theorem zm(m:Nat){p:Nat}(w:cL p c all a d h)(code:Nat):cB p c all d h (code,(fO.bR all a).at') (Z (m+2) (.fn 44) [.ptr p 0,ad code] h):=by
 obtain⟨g,a9,bb⟩:=oR m w
 have st:=agL (Z (m+1)) p code _ _ _ _ h g a9
 have e:=ow (intr:=fc) (n:=m+1) (args:=[.ptr p 0,ad code]) Tryz.func44 (by kernel_rfl) rfl (by kernel_rfl) st
 have za:=bb.n
 have cw:Ext h.n h (g.push (HI (code,(fO.bR all a).at'))):=Ext.k4 za bb
 exact⟨g.n,_,a,e,dx rfl,za,Nat.lt_succ_self _,w.ext cw (Nat.le_refl _),cw.eb p⟩
theorem Bm{s:List UInt8}{el:TypeId}{k:ff}{lo up:Nat}(aB:h.get b=some (.cells [.str s] el k lo up)):∀i (hi:i<[s].length),aC h b (0+i*1)=some (.str [s][i]):=λi hi=>by
 obtain rfl:i=0:=by simpa using hi
 exact aN aB rfl
theorem cB.back{p:Nat}{J:I}{f:Nat×Nat}{x:a8}(ag:cB p c all d J f x)(e:bU p h.n h J):cB p c all d h f x:=by
 obtain⟨b,g,a6,J,ae,aq,aQ,bj,cW⟩:=ag
 have:=e.n
 exact⟨b,g,a6,J,ae,by omega,aQ,bj,e.trans e.n cW⟩
theorem mi(m:Nat){p:Nat}(ah:Src all)(w:cL p c all a d h)(s:List UInt8):
  match fO.e_ all s a with
  |.ok a6=>∃g,Z (m+5) (.fn 40) [.ptr p 0,.str s] h=.ret (.aF []) g/\cL p c all a6 d g/\bU p h.n h g
  |.error f=>cB p c all d h f (Z (m+5) (.fn 40) [.ptr p 0,.str s] h):=by
 have dH:Ext h.n h (h.push (aD [.str s] 9)):=Ext.k4 (Nat.le_refl _) (Ext.refl _ _)
 obtain⟨g,a9,b_,bb⟩:=Bl m ah (w.ext dH (Nat.le_refl _)) (b:=h.n) (cp:=.exact 1) (l:=[s]) (by simp) (Nat.lt_succ_self _) (Bm (dx rfl))
 have cw:bU p h.n h g:=((dH.eb p).trans dH.n bb)
 unfold fO.e_
 cases ab:fO.dV all [s] a with
 |true=>
  rw[ab] at a9 b_
  simp only[if_true] at b_⊢
  exact⟨g,eI (intr:=fc) (n:=m+4) (args:=[.ptr p 0,.str s]) Tryz.func40 (agM (Z (m+4)) p s h g a9) (.inr rfl) (by kernel_rfl),b_,cw⟩
 |false=>
  rw[ab] at a9 b_
  simp only[if_false,Bool.false_eq_true] at b_⊢
  obtain⟨e,aw,a6,cI,aO,aZ,bC,cX,gi⟩:=(zm (m+2) b_ 10).back cw
  have aG:=ow (intr:=fc) (n:=m+4) (args:=[.ptr p 0,.str s]) Tryz.func40 (by kernel_rfl) rfl (by kernel_rfl) (agN (Z (m+4)) p s _ h g aw a9 cI)
  exact⟨e,aw,a6,aG,aO,aZ,bC,cX,gi⟩
theorem Ur(m:Nat){p:Nat}(ah:Src all)(w:cL p c all a d h)(k:Nat)(ai:¬k=0):
  Fin p c all d h (λt v g=>v=.agg (fm t)) (fO.nX all k a) (Z (m+3) (.fn 39) [.ptr p 0,ad k] h):=by
 obtain⟨t,aI⟩:∃t,t=fO.bR all a:=⟨_,rfl⟩
 have dH:Ext h.n h (h.push mh):=Ext.k4 (Nat.le_refl _) (Ext.refl _ _)
 have w0:=w.ext dH (Nat.le_refl _)
 obtain⟨g,a9,bb⟩:=oR (m+1) w0
 rw[<-aI] at a9
 have za:=bb.n
 have k8:(h.push mh).n=h.n+1:=rfl
 have gt:(g.push mh).get g.n=some mh:=dx rfl
 obtain⟨y,bH⟩:∃y,y=(g.push mh).set g.n (some (aD (fm t) 76)):=⟨_,rfl⟩
 have st1:aJ.storeCells (g.push mh) g.n 0 [ad t.k,.str t.t,ad t.v,ad t.at']=some y:=by rw[bH];exact cy gt rfl rfl
 have ve:y.get g.n=some (aD (fm t) 76):=by rw[bH];exact dz rfl
 have Us:Ext (h.push mh).n (h.push mh) y:=by rw[bH];exact(Ext.k4 (by omega) bb).ix (by omega)
 have lx:Ext h.n h y:=dH.trans (by omega) Us
 have kM:=w.ext lx (Nat.le_refl _)
 have agW:y.get h.n=some mh:=(Us.get h.n (by omega)).trans (dx rfl)
 have hlen:=ah.len
 unfold fO.nX
 by_cases jc:t.k=k
 · rw[<-aI,if_pos jc]
   have cf:=ah.lt w.lt (by rw[<-aI,jc];exact ai)
   have mI:¬h.n=p:=by have:=w.cM;omega
   have agX:¬g.n=p:=by have:=w.cM;omega
   have ame:¬h.n=g.n:=by omega
   obtain⟨z,bm⟩:∃z,z=y.set p (some (oQ c all.length (a+1) d)):=⟨_,rfl⟩
   have agY:z.get g.n=some (aD (fm t) 76):=by rw[bm];exact cr agX ve
   have agZ:z.get h.n=some mh:=by rw[bm];exact cr mI agW
   have st:=LX (Z (m+2)) p t.k k t.v t.at' t.t h g y a (a+1) z t.k t.t t.v t.at' _ a9 st1 (aN ve rfl) (by rw[jc,show dA _ _=true from lO rfl];rfl) (aN kM.par rfl) (uF (m:=100000) (by omega) (by decide)) (by rw[bm];exact cy kM.par rfl rfl) (rk agY rfl) (cy agZ rfl rfl)
   refine⟨_,_,eI (intr:=fc) (n:=m+2) (args:=[.ptr p 0,ad k]) Tryz.func39 st (.inl rfl) (Qz (t:=4) (ty:=76) (p:=h.n) (n:=4) (by kernel_rfl) (by kernel_rfl) (by kernel_rfl) (by kernel_rfl) (by kernel_rfl) (rk (dz rfl) rfl)),rfl,?_,?_⟩
   · have b9:cL p c all (a+1) d z:=by rw[bm];exact kM.set cf
     have gq:¬c=h.n:=by have:=w.gq;omega
     exact⟨cr (λe=>mI e.symm) b9.par,cr gq b9.row,b9.cM,b9.gq,cf⟩
   · rw[bm];exact((lx.eb p).qe).ix (Nat.le_refl _)
 · rw[<-aI,if_neg jc]
   obtain⟨e,aw,a6,cI,aO,aZ,bC,cX,gi⟩:=(zm m kM 10).back (lx.eb p)
   rw[<-aI] at aO
   have st:=LW (Z (m+2)) p t.k k t.v t.at' t.t h g y _ aw a9 st1 (aN ve rfl) (by rw[show dA _ _=false from fU jc];rfl) cI
   exact⟨e,aw,a6,ow (intr:=fc) (n:=m+2) (args:=[.ptr p 0,ad k]) Tryz.func39 (by kernel_rfl) rfl (by kernel_rfl) st,aO,aZ,bC,cX,gi⟩
theorem ag0{k:Nat}{t:bP}(h:fO.nX all k a=.ok (t,b)):t.k=k:=by
 unfold fO.nX at h
 split at h
 · rename_i ai;cases h;exact ai
 · cases h
theorem sL(m:Nat){p:Nat}(ah:Src all)(w:cL p c all a d h):
  Fin p c all d h (λs v g=>v=.str s) (fO.ij all a) (Z (m+4) (.fn 41) [.ptr p 0] h):=by
 have t1:=Ur m ah w 1 (by decide)
 unfold fO.ij
 cases ab:fO.nX all 1 a with
 |error f=>
  rw[ab] at t1
  obtain⟨e,aw,a6,cI,aO,aZ,bC,cX,gi⟩:=t1
  exact⟨e,aw,a6,ow (intr:=fc) (n:=m+3) (args:=[.ptr p 0]) Tryz.func41 (by kernel_rfl) rfl (by kernel_rfl) (agR (Z (m+3)) p _ h aw cI),aO,aZ,bC,cX,gi⟩
 |ok r=>
  obtain⟨t,b⟩:=r
  rw[ab] at t1
  obtain⟨v,g,a9,rfl,b_,bb⟩:=t1
  have ai:=ag0 ab
  have ag1:Z (m+3) (.fn 39) [.ptr p 0,ad 1] h=.ret (.agg [ad 1,.str t.t,ad t.v,ad t.at']) g:=by rw[a9];unfold fm;rw[ai]
  exact⟨.str t.t,g,eI (intr:=fc) (n:=m+3) (args:=[.ptr p 0]) Tryz.func41 (agQ (Z (m+3)) p _ _ _ h g ag1) (.inl rfl) (by kernel_rfl),rfl,b_,bb⟩
theorem ag2(p d f:Nat)(ca cb:List aa)(v:aa)(h al aw:I)
  (H1:aC (I.push h (aD [af p] 72)) (I.n h) 0=some (af p))
  (a4:aC (I.push h (aD [af p] 72)) p (0+2)=some (ad d))
  (bh:arith .add .i64 (.ofNat d) (.ofNat 1)=some (ad (d+1)))
  (bx:aJ.storeCells (I.push h (aD [af p] 72)) p (0+2) [ad (d+1)]=some al)
  (bW:aC al (I.n h) 0=some (af p))
  (cA:aC al p (0+2)=some (ad (d+1)))
  (c2:cz 40 (d+1)=false)
  (di:call (.fn f) (List.append (List.append ca []) cb) al=a8.ret v aw):
  a0 an Tryz.f84 none call [] (az [(0,af p),(1,.fn f ca cb)] h) (.ret)
   (bD.mk [(4,v)] [.call 116 [af (I.n h)]] .none aw):=
 bA [4] [.v (af p),.v (ad d),.v (ad (d+1)),.cU (.aF []) al,.v (af p),.v (ad (d+1)),.b false,.c v aw] 16 8 591751049 (pq H1 a4 bh (⟨by kernel_rfl,bx,rfl⟩:some 1=some 1/\aJ.storeCells (I.push h (b5.cells [aa.ptr p 0] 72 ff.own 0 0)) p (0+2) [ad (d+1)]=some al/\aa.aF []=aa.aF []) bW cA c2 di bz)
theorem ag3(p d f:Nat)(ca cb:List aa)(v:aa)(h al aw:I)
  (H1:aC (I.push h (aD [af p] 72)) (I.n h) 0=some (af p))
  (a4:aC (I.push h (aD [af p] 72)) p (0+2)=some (ad d))
  (bh:arith .add .i64 (.ofNat d) (.ofNat 1)=some (ad (d+1)))
  (bx:aJ.storeCells (I.push h (aD [af p] 72)) p (0+2) [ad (d+1)]=some al)
  (bW:aC al (I.n h) 0=some (af p))
  (cA:aC al p (0+2)=some (ad (d+1)))
  (c2:cz 40 (d+1)=false)
  (di:call (.fn f) (List.append (List.append ca []) cb) al=a8.aK v aw):
  a0 an Tryz.f84 none call [] (az [(0,af p),(1,.fn f ca cb)] h) (.aK v)
   (bD.mk [] [.call 116 [af (I.n h)]] .none aw):=
 bA [] [.v (af p),.v (ad d),.v (ad (d+1)),.cU (.aF []) al,.v (af p),.v (ad (d+1)),.b false,.p v aw] 16 8 591751049 (pq H1 a4 bh (⟨by kernel_rfl,bx,rfl⟩:some 1=some 1/\aJ.storeCells (I.push h (b5.cells [aa.ptr p 0] 72 ff.own 0 0)) p (0+2) [ad (d+1)]=some al/\aa.aF []=aa.aF []) bW cA c2 di bz)
theorem ag4(p d f:Nat)(ca cb:List aa)(v:aa)(h al aw:I)
  (H1:aC (I.push h (aD [af p] 72)) (I.n h) 0=some (af p))
  (a4:aC (I.push h (aD [af p] 72)) p (0+2)=some (ad d))
  (bh:arith .add .i64 (.ofNat d) (.ofNat 1)=some (ad (d+1)))
  (bx:aJ.storeCells (I.push h (aD [af p] 72)) p (0+2) [ad (d+1)]=some al)
  (bW:aC al (I.n h) 0=some (af p))
  (cA:aC al p (0+2)=some (ad (d+1)))
  (c2:cz 40 (d+1)=true)
  (di:call (.fn 44) [af p,ad 11] al=a8.aK v aw):
  a0 an Tryz.f84 none call [] (az [(0,af p),(1,.fn f ca cb)] h) (.aK v)
   (bD.mk [] [.call 116 [af (I.n h)]] .none aw):=
 bA [] [.v (af p),.v (ad d),.v (ad (d+1)),.cU (.aF []) al,.v (af p),.v (ad (d+1)),.b true,.v (af p),.p v aw] 16 9 9468016745 (pq H1 a4 bh (⟨by kernel_rfl,bx,rfl⟩:some 1=some 1/\aJ.storeCells (I.push h (b5.cells [aa.ptr p 0] 72 ff.own 0 0)) p (0+2) [ad (d+1)]=some al/\aa.aF []=aa.aF []) bW cA c2 di bz)
theorem ag5(b p d:Nat)(h al:I)
  (H1:aC h b 0=some (af p))
  (a4:aC h p (0+2)=some (ad (d+1)))
  (bh:arith .sub .i64 (.ofNat (d+1)) (.ofNat 1)=some (ad d))
  (bx:aJ.storeCells h p (0+2) [ad d]=some al):
  a0 an Tryz.f116 none call [] (az [(0,af b)] h) (.nrm)
   (az [] al):=
 bA [] [.v (af p),.v (ad (d+1)),.v (ad d),.cU (.aF []) al] 16 4 9029 (jt H1 a4 bh (⟨by kernel_rfl,bx,rfl⟩:some 1=some 1/\aJ.storeCells h p (0+2) [ad d]=some al/\aa.aF []=aa.aF []) bz)
theorem Ut(b p d:Nat)(x:aa)(h al:I)
  (H1:aC h b 0=some (af p))
  (a4:aC h p (0+2)=some (ad (d+1)))
  (bh:arith .sub .i64 (.ofNat (d+1)) (.ofNat 1)=some (ad d))
  (bx:aJ.storeCells h p (0+2) [ad d]=some al):
  a0 an Tryz.f116 none call [] (bD.mk [(0,af b)] [] (.act x) h) (.nrm)
   (bD.mk [] [] (.act x) al):=
 bA [] [.v (af p),.v (ad (d+1)),.v (ad d),.cU (.aF []) al] 16 4 9029 (jt H1 a4 bh (⟨by kernel_rfl,bx,rfl⟩:some 1=some 1/\aJ.storeCells h p (0+2) [ad d]=some al/\aa.aF []=aa.aF []) bz)
theorem ag6(p d f:Nat)(ca cb:List aa)(v:aa)(h al aw:I)
  (H1:aC (I.push h (aD [af p] 72)) (I.n h) 0=some (af p))
  (a4:aC (I.push h (aD [af p] 72)) p (0+2)=some (ad d))
  (bh:arith .add .i64 (.ofNat d) (.ofNat 1)=some (ad (d+1)))
  (bx:aJ.storeCells (I.push h (aD [af p] 72)) p (0+2) [ad (d+1)]=some al)
  (bW:aC al (I.n h) 0=some (af p))
  (cA:aC al p (0+2)=some (ad (d+1)))
  (c2:cz 40 (d+1)=false)
  (di:call (.fn f) (List.append (List.append ca []) cb) al=a8.ret v aw):
  a0 an Tryz.f89 none call [] (az [(0,af p),(1,.fn f ca cb)] h) (.ret)
   (bD.mk [(4,v)] [.call 120 [af (I.n h)]] .none aw):=
 bA [4] [.v (af p),.v (ad d),.v (ad (d+1)),.cU (.aF []) al,.v (af p),.v (ad (d+1)),.b false,.c v aw] 16 8 591751049 (pq H1 a4 bh (⟨by kernel_rfl,bx,rfl⟩:some 1=some 1/\aJ.storeCells (I.push h (b5.cells [aa.ptr p 0] 72 ff.own 0 0)) p (0+2) [ad (d+1)]=some al/\aa.aF []=aa.aF []) bW cA c2 di bz)
theorem ag7(p d f:Nat)(ca cb:List aa)(v:aa)(h al aw:I)
  (H1:aC (I.push h (aD [af p] 72)) (I.n h) 0=some (af p))
  (a4:aC (I.push h (aD [af p] 72)) p (0+2)=some (ad d))
  (bh:arith .add .i64 (.ofNat d) (.ofNat 1)=some (ad (d+1)))
  (bx:aJ.storeCells (I.push h (aD [af p] 72)) p (0+2) [ad (d+1)]=some al)
  (bW:aC al (I.n h) 0=some (af p))
  (cA:aC al p (0+2)=some (ad (d+1)))
  (c2:cz 40 (d+1)=false)
  (di:call (.fn f) (List.append (List.append ca []) cb) al=a8.aK v aw):
  a0 an Tryz.f89 none call [] (az [(0,af p),(1,.fn f ca cb)] h) (.aK v)
   (bD.mk [] [.call 120 [af (I.n h)]] .none aw):=
 bA [] [.v (af p),.v (ad d),.v (ad (d+1)),.cU (.aF []) al,.v (af p),.v (ad (d+1)),.b false,.p v aw] 16 8 591751049 (pq H1 a4 bh (⟨by kernel_rfl,bx,rfl⟩:some 1=some 1/\aJ.storeCells (I.push h (b5.cells [aa.ptr p 0] 72 ff.own 0 0)) p (0+2) [ad (d+1)]=some al/\aa.aF []=aa.aF []) bW cA c2 di bz)
theorem ag8(p d f:Nat)(ca cb:List aa)(v:aa)(h al aw:I)
  (H1:aC (I.push h (aD [af p] 72)) (I.n h) 0=some (af p))
  (a4:aC (I.push h (aD [af p] 72)) p (0+2)=some (ad d))
  (bh:arith .add .i64 (.ofNat d) (.ofNat 1)=some (ad (d+1)))
  (bx:aJ.storeCells (I.push h (aD [af p] 72)) p (0+2) [ad (d+1)]=some al)
  (bW:aC al (I.n h) 0=some (af p))
  (cA:aC al p (0+2)=some (ad (d+1)))
  (c2:cz 40 (d+1)=true)
  (di:call (.fn 44) [af p,ad 11] al=a8.aK v aw):
  a0 an Tryz.f89 none call [] (az [(0,af p),(1,.fn f ca cb)] h) (.aK v)
   (bD.mk [] [.call 120 [af (I.n h)]] .none aw):=
 bA [] [.v (af p),.v (ad d),.v (ad (d+1)),.cU (.aF []) al,.v (af p),.v (ad (d+1)),.b true,.v (af p),.p v aw] 16 9 9468016745 (pq H1 a4 bh (⟨by kernel_rfl,bx,rfl⟩:some 1=some 1/\aJ.storeCells (I.push h (b5.cells [aa.ptr p 0] 72 ff.own 0 0)) p (0+2) [ad (d+1)]=some al/\aa.aF []=aa.aF []) bW cA c2 di bz)
theorem ag9(b p d:Nat)(h al:I)
  (H1:aC h b 0=some (af p))
  (a4:aC h p (0+2)=some (ad (d+1)))
  (bh:arith .sub .i64 (.ofNat (d+1)) (.ofNat 1)=some (ad d))
  (bx:aJ.storeCells h p (0+2) [ad d]=some al):
  a0 an Tryz.f120 none call [] (az [(0,af b)] h) (.nrm)
   (az [] al):=
 bA [] [.v (af p),.v (ad (d+1)),.v (ad d),.cU (.aF []) al] 16 4 9029 (jt H1 a4 bh (⟨by kernel_rfl,bx,rfl⟩:some 1=some 1/\aJ.storeCells h p (0+2) [ad d]=some al/\aa.aF []=aa.aF []) bz)
theorem Uu(b p d:Nat)(x:aa)(h al:I)
  (H1:aC h b 0=some (af p))
  (a4:aC h p (0+2)=some (ad (d+1)))
  (bh:arith .sub .i64 (.ofNat (d+1)) (.ofNat 1)=some (ad d))
  (bx:aJ.storeCells h p (0+2) [ad d]=some al):
  a0 an Tryz.f120 none call [] (bD.mk [(0,af b)] [] (.act x) h) (.nrm)
   (bD.mk [] [] (.act x) al):=
 bA [] [.v (af p),.v (ad (d+1)),.v (ad d),.cU (.aF []) al] 16 4 9029 (jt H1 a4 bh (⟨by kernel_rfl,bx,rfl⟩:some 1=some 1/\aJ.storeCells h p (0+2) [ad d]=some al/\aa.aF []=aa.aF []) bz)
def vf{α:Type}(p:Nat)(V:α->aa->I->Prop):Prop:=∀v w g fT,V v w g->bU p g.n g fT->V v w fT
theorem ag_(m k:Nat){p:Nat}{α:Type}{V:α->aa->I->Prop}(l2:vf p V)(ah:Src all)(w:cL p c all a d h)(f:Nat)(ca cb:List aa)(aH:d<40)(r:fO.bw α)
  (dD:∀J,cL p c all a (d+1) J->bU p h.n h J->Fin p c all (d+1) J V r (Z (m+2) (.fn f) (ca++[]++cb) J)):
  Fin p c all d h V r (Z (m+3) (.fn 84) [.ptr p 0,.fn f ca cb] h):=by
 have a3:=w.cM
 have ak:=w.gq
 obtain⟨h0,ha⟩:∃h0,h0=h.push (aD [.ptr p 0] 72):=⟨_,rfl⟩
 have dH:Ext h.n h h0:=by rw[ha];exact Ext.k4 (Nat.le_refl _) (Ext.refl _ _)
 have k8:h0.n=h.n+1:=by rw[ha];rfl
 have w0:=w.ext dH (Nat.le_refl _)
 have bE:h0.get h.n=some (aD [.ptr p 0] 72):=by rw[ha];exact dx rfl
 have qO:¬h.n=p:=by omega
 obtain⟨J,fR⟩:∃J,J=h0.set p (some (oQ c all.length a (d+1))):=⟨_,rfl⟩
 have b_:cL p c all a (d+1) J:=by rw[fR];exact w0.set w0.lt
 have bd:J.get h.n=some (aD [.ptr p 0] 72):=by rw[fR];exact cr qO bE
 have bn:J.n=h.n+1:=by rw[fR];simpa using k8
 have bb:bU p h.n h J:=by rw[fR];exact(dH.eb p).qe
 have hlen:=ah.len
 have st1:aJ.storeCells h0 p (0+2) [ad (d+1)]=some J:=by rw[fR];exact cy w0.par rfl rfl
 have key:=dD J b_ bb
 have back:∀{a6:Nat} {g:I},cL p c all a6 (d+1) g->bU p J.n J g->g.get h.n=some (aD [.ptr p 0] 72)/\cL p c all a6 d (g.set p (some (oQ c all.length a6 d)))/\bU p h.n h (g.set p (some (oQ c all.length a6 d)))/\aJ.storeCells g p (0+2) [ad d]=some (g.set p (some (oQ c all.length a6 d))):=λ{a6 g} gr gn=>
  ⟨(gn.get h.n (by omega) qO).trans bd,gr.set gr.lt,(bb.trans bb.n gn).qe,cy gr.par rfl rfl⟩
 have DZ:arith BinOp.sub IntKind.i64 (Int.ofNat (d+1)) (Int.ofNat 1)=some (ad d):=by
  have e:(Int.ofNat (d+1)-Int.ofNat 1)=((d:Nat):Int):=by simp
  unfold arith
  simp only[e]
  rw[r6 d (by omega)]
  rfl
 cases r with
 |ok jw=>
  obtain⟨v,a6⟩:=jw
  obtain⟨u,g,aG,aW,gr,gn⟩:=key
  obtain⟨sM,b9,cw,fC⟩:=back gr gn
  have sN:=ag2 (Z (m+2)) p d f ca cb u h J g (by rw[<-ha];exact aN bE rfl) (by rw[<-ha];exact aN w0.par rfl) (uF (m:=100000) (by omega) (by decide)) (by rw[<-ha];exact st1) (aN bd rfl) (aN b_.par rfl) (iR (by omega)) aG
  have sO:=ag5 (Z (m+2)) h.n p d g _ (aN sM rfl) (aN gr.par rfl) DZ fC
  refine⟨u,_,C4 (intr:=fc) (n:=m+2) (w:=.aF []) (args:=[.ptr p 0,.fn f ca cb]) Tryz.func84 (by kernel_rfl) rfl (by kernel_rfl) sN (.inl rfl) Tryz.func116 (by kernel_rfl) (by kernel_rfl) sO (.inr rfl) (by kernel_rfl) rfl (by kernel_rfl),l2 _ _ _ _ aW (bU.qe (bU.refl _ _ _)),b9,cw⟩
 |error u5=>
  obtain⟨e,g,a6,aG,aO,aZ,bC,gr,gn⟩:=key
  obtain⟨sM,b9,cw,fC⟩:=back gr gn
  have sN:=ag3 (Z (m+2)) p d f ca cb _ h J g (by rw[<-ha];exact aN bE rfl) (by rw[<-ha];exact aN w0.par rfl) (uF (m:=100000) (by omega) (by decide)) (by rw[<-ha];exact st1) (aN bd rfl) (aN b_.par rfl) (iR (by omega)) aG
  have sO:=Ut (Z (m+2)) h.n p d (.iface 70 (.agg [.ptr e 0])) g _ (aN sM rfl) (aN gr.par rfl) DZ fC
  have zn:¬e=p:=by omega
  exact⟨e,_,a6,Gt (intr:=fc) (n:=m+2) (w:=.aF []) (args:=[.ptr p 0,.fn f ca cb]) Tryz.func84 (by kernel_rfl) rfl (by kernel_rfl) sN Tryz.func116 (by kernel_rfl) (by kernel_rfl) sO (.inr rfl) (by kernel_rfl) rfl,cr zn aO,by omega,bC,b9,cw⟩
theorem aha(m:Nat){p:Nat}(ah:Src all)(w:cL p c all a d h)(f:Nat)(ca cb:List aa)(aH:d=40):
  cB p c all d h (11,(fO.bR all a).at') (Z (m+3) (.fn 84) [.ptr p 0,.fn f ca cb] h):=by
 subst aH
 have a3:=w.cM
 obtain⟨h0,ha⟩:∃h0,h0=h.push (aD [.ptr p 0] 72):=⟨_,rfl⟩
 have dH:Ext h.n h h0:=by rw[ha];exact Ext.k4 (Nat.le_refl _) (Ext.refl _ _)
 have k8:h0.n=h.n+1:=by rw[ha];rfl
 have w0:=w.ext dH (Nat.le_refl _)
 have bE:h0.get h.n=some (aD [.ptr p 0] 72):=by rw[ha];exact dx rfl
 have qO:¬h.n=p:=by omega
 obtain⟨J,fR⟩:∃J,J=h0.set p (some (oQ c all.length a 41)):=⟨_,rfl⟩
 have b_:cL p c all a 41 J:=by rw[fR];exact w0.set w0.lt
 have bd:J.get h.n=some (aD [.ptr p 0] 72):=by rw[fR];exact cr qO bE
 have bn:J.n=h.n+1:=by rw[fR];simpa using k8
 have bb:bU p h.n h J:=by rw[fR];exact(dH.eb p).qe
 have st1:aJ.storeCells h0 p (0+2) [ad 41]=some J:=by rw[fR];exact cy w0.par rfl rfl
 obtain⟨e,g,a6,aG,aO,aZ,bC,gr,gn⟩:=zm m b_ 11
 have sM:g.get h.n=some (aD [.ptr p 0] 72):=(gn.get h.n (by omega) qO).trans bd
 have sN:=ag4 (Z (m+2)) p 40 f ca cb _ h J g (by rw[<-ha];exact aN bE rfl) (by rw[<-ha];exact aN w0.par rfl) (uF (m:=100000) (by omega) (by decide)) (by rw[<-ha];exact st1) (aN bd rfl) (aN b_.par rfl) (ib (by omega)) aG
 have sO:=Ut (Z (m+2)) h.n p 40 (.iface 70 (.agg [.ptr e 0])) g _ (aN sM rfl) (aN gr.par rfl) rfl (cy gr.par rfl rfl)
 have zn:¬e=p:=by omega
 exact⟨e,_,a6,Gt (intr:=fc) (n:=m+2) (w:=.aF []) (args:=[.ptr p 0,.fn f ca cb]) Tryz.func84 (by kernel_rfl) rfl (by kernel_rfl) sN Tryz.func116 (by kernel_rfl) (by kernel_rfl) sO (.inr rfl) (by kernel_rfl) rfl,cr zn aO,by omega,bC,gr.set gr.lt,(bb.trans bb.n gn).qe⟩
theorem Uv(m k:Nat){p:Nat}{α:Type}{V:α->aa->I->Prop}(l2:vf p V)(ah:Src all)(w:cL p c all a d h)(f:Nat)(ca cb:List aa)(aH:d<40)(r:fO.bw α)
  (dD:∀J,cL p c all a (d+1) J->bU p h.n h J->Fin p c all (d+1) J V r (Z (m+2) (.fn f) (ca++[]++cb) J)):
  Fin p c all d h V r (Z (m+3) (.fn 89) [.ptr p 0,.fn f ca cb] h):=by
 have a3:=w.cM
 have ak:=w.gq
 obtain⟨h0,ha⟩:∃h0,h0=h.push (aD [.ptr p 0] 72):=⟨_,rfl⟩
 have dH:Ext h.n h h0:=by rw[ha];exact Ext.k4 (Nat.le_refl _) (Ext.refl _ _)
 have k8:h0.n=h.n+1:=by rw[ha];rfl
 have w0:=w.ext dH (Nat.le_refl _)
 have bE:h0.get h.n=some (aD [.ptr p 0] 72):=by rw[ha];exact dx rfl
 have qO:¬h.n=p:=by omega
 obtain⟨J,fR⟩:∃J,J=h0.set p (some (oQ c all.length a (d+1))):=⟨_,rfl⟩
 have b_:cL p c all a (d+1) J:=by rw[fR];exact w0.set w0.lt
 have bd:J.get h.n=some (aD [.ptr p 0] 72):=by rw[fR];exact cr qO bE
 have bn:J.n=h.n+1:=by rw[fR];simpa using k8
 have bb:bU p h.n h J:=by rw[fR];exact(dH.eb p).qe
 have hlen:=ah.len
 have st1:aJ.storeCells h0 p (0+2) [ad (d+1)]=some J:=by rw[fR];exact cy w0.par rfl rfl
 have key:=dD J b_ bb
 have back:∀{a6:Nat} {g:I},cL p c all a6 (d+1) g->bU p J.n J g->g.get h.n=some (aD [.ptr p 0] 72)/\cL p c all a6 d (g.set p (some (oQ c all.length a6 d)))/\bU p h.n h (g.set p (some (oQ c all.length a6 d)))/\aJ.storeCells g p (0+2) [ad d]=some (g.set p (some (oQ c all.length a6 d))):=λ{a6 g} gr gn=>
  ⟨(gn.get h.n (by omega) qO).trans bd,gr.set gr.lt,(bb.trans bb.n gn).qe,cy gr.par rfl rfl⟩
 have DZ:arith BinOp.sub IntKind.i64 (Int.ofNat (d+1)) (Int.ofNat 1)=some (ad d):=by
  have e:(Int.ofNat (d+1)-Int.ofNat 1)=((d:Nat):Int):=by simp
  unfold arith
  simp only[e]
  rw[r6 d (by omega)]
  rfl
 cases r with
 |ok jw=>
  obtain⟨v,a6⟩:=jw
  obtain⟨u,g,aG,aW,gr,gn⟩:=key
  obtain⟨sM,b9,cw,fC⟩:=back gr gn
  have sN:=ag6 (Z (m+2)) p d f ca cb u h J g (by rw[<-ha];exact aN bE rfl) (by rw[<-ha];exact aN w0.par rfl) (uF (m:=100000) (by omega) (by decide)) (by rw[<-ha];exact st1) (aN bd rfl) (aN b_.par rfl) (iR (by omega)) aG
  have sO:=ag9 (Z (m+2)) h.n p d g _ (aN sM rfl) (aN gr.par rfl) DZ fC
  refine⟨u,_,C4 (intr:=fc) (n:=m+2) (w:=.aF []) (args:=[.ptr p 0,.fn f ca cb]) Tryz.func89 (by kernel_rfl) rfl (by kernel_rfl) sN (.inl rfl) Tryz.func120 (by kernel_rfl) (by kernel_rfl) sO (.inr rfl) (by kernel_rfl) rfl (by kernel_rfl),l2 _ _ _ _ aW (bU.qe (bU.refl _ _ _)),b9,cw⟩
 |error u5=>
  obtain⟨e,g,a6,aG,aO,aZ,bC,gr,gn⟩:=key
  obtain⟨sM,b9,cw,fC⟩:=back gr gn
  have sN:=ag7 (Z (m+2)) p d f ca cb _ h J g (by rw[<-ha];exact aN bE rfl) (by rw[<-ha];exact aN w0.par rfl) (uF (m:=100000) (by omega) (by decide)) (by rw[<-ha];exact st1) (aN bd rfl) (aN b_.par rfl) (iR (by omega)) aG
  have sO:=Uu (Z (m+2)) h.n p d (.iface 70 (.agg [.ptr e 0])) g _ (aN sM rfl) (aN gr.par rfl) DZ fC
  have zn:¬e=p:=by omega
  exact⟨e,_,a6,Gt (intr:=fc) (n:=m+2) (w:=.aF []) (args:=[.ptr p 0,.fn f ca cb]) Tryz.func89 (by kernel_rfl) rfl (by kernel_rfl) sN Tryz.func120 (by kernel_rfl) (by kernel_rfl) sO (.inr rfl) (by kernel_rfl) rfl,cr zn aO,by omega,bC,b9,cw⟩
theorem Uw(m:Nat){p:Nat}(ah:Src all)(w:cL p c all a d h)(f:Nat)(ca cb:List aa)(aH:d=40):
  cB p c all d h (11,(fO.bR all a).at') (Z (m+3) (.fn 89) [.ptr p 0,.fn f ca cb] h):=by
 subst aH
 have a3:=w.cM
 obtain⟨h0,ha⟩:∃h0,h0=h.push (aD [.ptr p 0] 72):=⟨_,rfl⟩
 have dH:Ext h.n h h0:=by rw[ha];exact Ext.k4 (Nat.le_refl _) (Ext.refl _ _)
 have k8:h0.n=h.n+1:=by rw[ha];rfl
 have w0:=w.ext dH (Nat.le_refl _)
 have bE:h0.get h.n=some (aD [.ptr p 0] 72):=by rw[ha];exact dx rfl
 have qO:¬h.n=p:=by omega
 obtain⟨J,fR⟩:∃J,J=h0.set p (some (oQ c all.length a 41)):=⟨_,rfl⟩
 have b_:cL p c all a 41 J:=by rw[fR];exact w0.set w0.lt
 have bd:J.get h.n=some (aD [.ptr p 0] 72):=by rw[fR];exact cr qO bE
 have bn:J.n=h.n+1:=by rw[fR];simpa using k8
 have bb:bU p h.n h J:=by rw[fR];exact(dH.eb p).qe
 have st1:aJ.storeCells h0 p (0+2) [ad 41]=some J:=by rw[fR];exact cy w0.par rfl rfl
 obtain⟨e,g,a6,aG,aO,aZ,bC,gr,gn⟩:=zm m b_ 11
 have sM:g.get h.n=some (aD [.ptr p 0] 72):=(gn.get h.n (by omega) qO).trans bd
 have sN:=ag8 (Z (m+2)) p 40 f ca cb _ h J g (by rw[<-ha];exact aN bE rfl) (by rw[<-ha];exact aN w0.par rfl) (uF (m:=100000) (by omega) (by decide)) (by rw[<-ha];exact st1) (aN bd rfl) (aN b_.par rfl) (ib (by omega)) aG
 have sO:=Uu (Z (m+2)) h.n p 40 (.iface 70 (.agg [.ptr e 0])) g _ (aN sM rfl) (aN gr.par rfl) rfl (cy gr.par rfl rfl)
 have zn:¬e=p:=by omega
 exact⟨e,_,a6,Gt (intr:=fc) (n:=m+2) (w:=.aF []) (args:=[.ptr p 0,.fn f ca cb]) Tryz.func89 (by kernel_rfl) rfl (by kernel_rfl) sN Tryz.func120 (by kernel_rfl) (by kernel_rfl) sO (.inr rfl) (by kernel_rfl) rfl,cr zn aO,by omega,bC,gr.set gr.lt,(bb.trans bb.n gn).qe⟩
open Go aJ Go.Proofs lp iI fO
abbrev kV(s:bJ):List aa:=[.str s]
abbrev dT(v:aa):List aa:=[v]
abbrev hf(k a:Nat)(u_ dB:bJ)(bV jw jx:aa):b5:=aD [ad k,ad a,.str u_,.str dB,bV,jw,jx] 58
mutual
def HK(B:Nat)(h:I):cG->aa->Prop
 |.mk k a u_ dB cZ xs rt,v=>∃r bV jw jx vs,v=.ptr r 0/\B<=r/\r<h.n/\h.get r=some (hf k a u_ dB bV jw jx)/\iH kV 1 9 B h bV cZ/\iH dT 1 47 B h jw vs/\MF B h xs vs/\Ux B h rt jx
def MF(B:Nat)(h:I):List cG->List aa->Prop
 |[],vs=>vs=[]
 |t::bl,vs=>∃v ws,vs=v::ws/\HK B h t v/\MF B h bl ws
def Ux(B:Nat)(h:I):Option cG->aa->Prop
 |none,v=>v=.au
 |some t,v=>HK B h t v
end
theorem ahb(p k n w:Nat)(s:List UInt8)(v:aa)(h al aw:I)
  (H1:call (.fn 20) [af p] h=a8.ret (.agg [ad k,.str s,ad n,ad w]) al)
  (a4:call (.fn 41) [af p] al=a8.aK v aw):
  a0 an Tryz.f119 none call [] (az [(0,af p)] h) (.aK v)
   (az [] aw):=
 bA [] [.c (.agg [ad k,.str s,ad n,ad w]) al,.p v aw] 16 2 35 (kP H1 a4 bz)
theorem ahc(p k n w:Nat)(s t:List UInt8)(h al aw a1:I)
  (H1:call (.fn 20) [af p] h=a8.ret (.agg [ad k,.str s,ad n,ad w]) al)
  (a4:call (.fn 41) [af p] al=a8.ret (.str t) aw)
  (bh:call (.fn 38) [af p,.slice (I.n (I.push aw (aD [ad 6,ad w,.str [],.str t,.ao,.ao,.au] 58))) 0 1 (.exact 1)] (I.push (I.push aw (aD [ad 6,ad w,.str [],.str t,.ao,.ao,.au] 58)) (aD [.str [46]] 9))=a8.ret (.bool false) a1):
  a0 an Tryz.f119 none call [] (az [(0,af p)] h) (.ret)
   (az [(2,af (I.n aw))] a1):=
 bA [2] [.c (.agg [ad k,.str s,ad n,ad w]) al,.c (.str t) aw,.c (.bool false) a1,.b false] 16 4 9025 (m9 H1 a4 bh bz)
theorem ahd(p k n w:Nat)(s t u:List UInt8)(h al aw a1 a5 bc cj:I)
  (H1:call (.fn 20) [af p] h=a8.ret (.agg [ad k,.str s,ad n,ad w]) al)
  (a4:call (.fn 41) [af p] al=a8.ret (.str t) aw)
  (bh:call (.fn 38) [af p,.slice (I.n (I.push aw (aD [ad 6,ad w,.str [],.str t,.ao,.ao,.au] 58))) 0 1 (.exact 1)] (I.push (I.push aw (aD [ad 6,ad w,.str [],.str t,.ao,.ao,.au] 58)) (aD [.str [46]] 9))=a8.ret (.bool true) a1)
  (bx:aC (I.room a1 14) (I.n aw) (0+3)=some (.str t))
  (bW:call (.fn 41) [af p] (I.room a1 14)=a8.ret (.str u) a5)
  (cA:aJ.storeCells a5 (I.n aw) (0+2) [.str t]=some bc)
  (c2:aJ.storeCells bc (I.n aw) (0+3) [.str u]=some cj)
  (di:aC a5 (I.n aw) (0+3)=some (.str t)):
  a0 an Tryz.f119 none call [] (az [(0,af p)] h) (.ret)
   (az [(2,af (I.n aw))] cj):=
 bA [2] [.c (.agg [ad k,.str s,ad n,ad w]) al,.c (.str t) aw,.c (.bool true) a1,.b true,.v (.str t),.c (.str u) a5,.cU (.aF []) bc,.cU (.aF []) cj] 256 44 0x203040005060708090a090a090a090a090a090a090a090a090a0b0c0b0c0d0e0d050f10090a1112090a0b0c (dN H1 a4 bh bx bW (⟨by kernel_rfl,cA,rfl⟩:some 1=some 1/\aJ.storeCells a5 (I.n aw) (0+2) [aa.str t]=some bc/\aa.aF []=aa.aF []) (⟨by kernel_rfl,c2,rfl⟩:some 1=some 1/\aJ.storeCells bc (I.n aw) (0+3) [aa.str u]=some cj/\aa.aF []=aa.aF []) (b4 (af (I.n aw))) (ck (af (I.n aw)))<|pq (b4 (.ptr (I.n aw) (0+3))) (ck (.ptr (I.n aw) (0+3))) (b4 (.str t)) di (b4 (af p)) (ck (af p)) (b4 (.ptr (I.n aw) (0+2))) (ck (.ptr (I.n aw) (0+2))) bz)
theorem ahe(p k n w:Nat)(s t:List UInt8)(v:aa)(h al aw a1 a5:I)
  (H1:call (.fn 20) [af p] h=a8.ret (.agg [ad k,.str s,ad n,ad w]) al)
  (a4:call (.fn 41) [af p] al=a8.ret (.str t) aw)
  (bh:call (.fn 38) [af p,.slice (I.n (I.push aw (aD [ad 6,ad w,.str [],.str t,.ao,.ao,.au] 58))) 0 1 (.exact 1)] (I.push (I.push aw (aD [ad 6,ad w,.str [],.str t,.ao,.ao,.au] 58)) (aD [.str [46]] 9))=a8.ret (.bool true) a1)
  (bx:aC (I.room a1 14) (I.n aw) (0+3)=some (.str t))
  (bW:call (.fn 41) [af p] (I.room a1 14)=a8.aK v a5):
  a0 an Tryz.f119 none call [] (az [(0,af p)] h) (.aK v)
   (az [] a5):=
 bA [] [.c (.agg [ad k,.str s,ad n,ad w]) al,.c (.str t) aw,.c (.bool true) a1,.b true,.v (.str t),.p v a5] 16 20 0x234056787878789ab5cd (dN H1 a4 bh bx bW (b4 (af (I.n aw))) (ck (af (I.n aw))) (b4 (.ptr (I.n aw) (0+3))) (ck (.ptr (I.n aw) (0+3)))<|m9 (b4 (.str t)) (b4 (af p)) (ck (af p)) bz)
abbrev Uy(B:Nat):cG->aa->I->Prop:=λt v g=>HK B g t v
theorem iH.HL{D:Type}{enc:D->List aa}{w el B:Nat}:iH enc w el B h .ao []:=.inl ⟨rfl,rfl⟩
theorem Uz(m:Nat){p:Nat}(ah:Src all)(w:cL p c all a d h):
  Fin p c all d h (Uy h.n) (rK all a) (Z (m+5) (.fn 119) [.ptr p 0] h):=by
 obtain⟨t0,ru⟩:∃t,t=bR all a:=⟨_,rfl⟩
 have a3:=w.cM
 obtain⟨al,a9,bb⟩:=oR (m+3) w
 rw[<-ru] at a9
 have b_:=w.ext bb (Nat.le_refl _)
 have bn:=bb.n
 have dB:=sL m ah b_
 unfold rK
 cases ab:ij all a with
 |error f=>
  rw[ab] at dB
  obtain⟨e,aw,a6,cI,aO,aZ,bC,cX,gi⟩:=(show cB p c all d al f _ from dB).back (bb.eb p)
  exact⟨e,aw,a6,ow (intr:=fc) (n:=m+4) (args:=[.ptr p 0]) Tryz.func119 (by kernel_rfl) rfl (by kernel_rfl) (ahb (Z (m+4)) p _ _ _ _ _ h al aw a9 cI),aO,aZ,bC,cX,gi⟩
 |ok r=>
  obtain⟨x,b⟩:=r
  rw[ab] at dB
  obtain⟨v,aw,cI,rfl,b9,cw⟩:=dB
  have b6:=cw.n
  simp only
  have oS:bU p h.n h aw:=(bb.eb p).trans bn cw
  obtain⟨aq,ni⟩:∃aq,aq=aw.push (hf 6 t0.at' [] x .ao .ao .au):=⟨_,rfl⟩
  obtain⟨aQ,D0⟩:∃aQ,aQ=aq.push (aD [.str [46]] 9):=⟨_,rfl⟩
  have dc:aq.n=aw.n+1:=by rw[ni];rfl
  have ct:aQ.n=aw.n+2:=by rw[D0];show aq.n+1=_;rw[dc]
  have gO:Ext aw.n aw aQ:=by rw[D0,ni];exact(Ext.k4 (by simp) (Ext.k4 (Nat.le_refl _) (Ext.refl _ _)))
  have jD:=b9.ext gO (Nat.le_refl _)
  have gm:aQ.get aw.n=some (hf 6 t0.at' [] x .ao .ao .au):=by rw[D0];exact gN (by omega) (by rw[ni];exact dx rfl)
  have c0:aQ.get aq.n=some (aD [.str [46]] 9):=by rw[D0];exact dx rfl
  obtain⟨a1,gF,eH,fN⟩:=Bl m ah jD (b:=aq.n) (cp:=.exact 1) (l:=[[46]]) (by simp) (by omega) (Bm c0)
  have amf:=fN.n
  have amg:=b9.cM
  have MG:¬aw.n=p:=by omega
  have dd:a1.get aw.n=some (hf 6 t0.at' [] x .ao .ao .au):=(fN.get aw.n (by omega) MG).trans gm
  have UA:bU p h.n h a1:=oS.trans (by omega) ((gO.eb p).trans (by omega) fN)
  rw[D0,ni] at gF
  cases aH:dV all [[46]] b with
  |false=>
   rw[aH] at gF eH
   simp only[Bool.false_eq_true,if_false] at eH⊢
   have st:=ahc (Z (m+4)) p _ _ _ _ x h al aw a1 a9 cI gF
   rw[<-ru]
   exact⟨_,a1,eI (intr:=fc) (n:=m+4) (args:=[.ptr p 0]) Tryz.func119 st (.inl rfl) (by kernel_rfl),⟨aw.n,.ao,.ao,.au,[],rfl,by omega,by omega,dd,iH.HL,iH.HL,rfl,rfl⟩,eH,UA⟩
  |true=>
   rw[aH] at gF eH
   simp only[if_true] at eH⊢
   obtain⟨D1,Bn⟩:∃y,y=a1.room 14:=⟨_,rfl⟩
   have lT:Ext a1.n a1 D1:=by rw[Bn];exact(Ext.refl _ _).Kf
   have UB:D1.n=a1.n+14:=by rw[Bn];rfl
   have kx:=eH.ext lT (Nat.le_refl _)
   have jR:D1.get aw.n=some (hf 6 t0.at' [] x .ao .ao .au):=(lT.get aw.n (by omega)).trans dd
   have HM:=sL m ah kx
   have UC:bU p h.n h D1:=UA.trans (by omega) (lT.eb p)
   cases bH:ij all (b+1) with
   |error f=>
    rw[bH] at HM
    obtain⟨e,a5,a6,hy,aO,aZ,bC,cX,gi⟩:=(show cB p c all d D1 f _ from HM).back UC
    rw[Bn] at hy
    have st:=ahe (Z (m+4)) p _ _ _ _ x _ h al aw a1 a5 a9 cI gF (by rw[<-Bn];exact aN jR rfl) hy
    exact⟨e,a5,a6,ow (intr:=fc) (n:=m+4) (args:=[.ptr p 0]) Tryz.func119 (by kernel_rfl) rfl (by kernel_rfl) st,aO,aZ,bC,cX,gi⟩
   |ok b3=>
    obtain⟨y,b2⟩:=b3
    rw[bH] at HM
    obtain⟨v2,a5,hy,rfl,ih,jJ⟩:=HM
    have fu:=jJ.n
    have nP:a5.get aw.n=some (hf 6 t0.at' [] x .ao .ao .au):=(jJ.get aw.n (by omega) MG).trans jR
    rw[Bn] at hy
    obtain⟨bc,xi⟩:∃bc,bc=a5.set aw.n (some (hf 6 t0.at' x x .ao .ao .au)):=⟨_,rfl⟩
    have ahf:bc.get aw.n=some (hf 6 t0.at' x x .ao .ao .au):=by rw[xi];exact dz rfl
    have st:=ahd (Z (m+4)) p _ _ _ _ x y h al aw a1 a5 bc _ a9 cI gF (by rw[<-Bn];exact aN jR rfl) hy (by rw[xi];exact cy nP rfl rfl) (cy ahf rfl rfl) (aN nP rfl)
    have kA:=ih.gq
    have UD:¬c=aw.n:=by have:=b9.gq;omega
    have UE:¬p=aw.n:=λe=>MG e.symm
    rw[<-ru]
    refine⟨_,_,eI (intr:=fc) (n:=m+4) (args:=[.ptr p 0]) Tryz.func119 st (.inl rfl) (by kernel_rfl),⟨aw.n,.ao,.ao,.au,[],rfl,by omega,?_,dz rfl,iH.HL,iH.HL,rfl,rfl⟩,?_,?_⟩
    · show aw.n<bc.n
      rw[xi];show aw.n<a5.n;omega
    · exact⟨cr UE (by rw[xi];exact cr UE ih.par),cr UD (by rw[xi];exact cr UD ih.row),by rw[xi];exact ih.cM,by rw[xi];exact ih.gq,ih.lt⟩
    · rw[xi]
      exact((UC.trans (by omega) jJ).ix (by omega)).ix (by omega)
end Go.Proofs.lv
