/-
  PROVED HERE: contracts of functions (De). No condition beside each statement's own.
-/
import Derived.Test.YtlelojncabdnoaaDoorDb
import Derived.Test.YtlelojncabdnoaaDoorSxa
import Derived.Test.YtlelojncabdnoaaDoorSxb
import Derived.Test.YtlelojncabdnoaaDoorTx
import Derived.Test.YtlelojncabdnoaaDoorDc
set_option linter.unusedVariables false
set_option linter.unusedSimpArgs false
set_option maxRecDepth 100000
set_option maxHeartbeats 1000000
namespace Go.Proofs.h3
open Go aU Go.Proofs
variable {Q:bh->aQ->Prop} {R:bL->Prop} (call:cJ)
def vZ(c:Nat):Bool:=!(decide (97<=c/\c<=122)||decide (48<=c/\c<=57)||decide (c=95)||decide (c=45))
theorem QA(n:Nat)(h:J):(List.range 256).map (λc=>Y (n+1) (.fn 74) [iy c] h)=(List.range 256).map (λc=>bL.ret (.bool (vZ c)) h):=by kernel_rfl
theorem QB(n:Nat)(h:J){c:Nat}(ab:c<256):Y (n+1) (.fn 74) [iy c] h=.ret (.bool (vZ c)) h:=MT (QA n h) ab
theorem Ij(s:List UInt8)(h:J):
  br an Tryd.f59 none call [0] (aQ.mk [(0,I.str s)] [] aJ.none h) (bh.nrm)
   (aQ.mk [(0,I.str s)] [] aJ.none h):=
 cO [0] [] 16 0 0 cN
theorem Ik(s:List UInt8)(h:J):
  br an Tryd.f59 none call [1,0,0] (aQ.mk [(0,I.str s)] [] aJ.none h) (bh.nrm)
   (aQ.mk [(0,I.str s),(5,ak s.length),(6,I.int IntKind.i64 0)] [] aJ.none h):=
 cO [0,5,6] [] 16 0 0 cN
theorem QC(s:List UInt8)(i:Nat)(h:J)
  (h1:lf i s.length=false):
  br an Tryd.f59 none call [1,0,1,0,0] (aQ.mk [(0,I.str s),(5,ak s.length),(6,ak i)] [] aJ.none h) (bh.exit 0)
   (aQ.mk [(0,I.str s)] [] aJ.none h):=
 cO [0] [Hint.b false] 16 1 2 (k8 h1 cN)
theorem QD(s:List UInt8)(i c:Nat)(h:J)
  (h1:lf i s.length=true)
  (aa:qS i s=some (iy c))
  (ao:call (cM.fn 74) [iy c] h=bL.ret (I.bool true) h):
  br an Tryd.f59 none call [1,0,1,0,0] (aQ.mk [(0,I.str s),(5,ak s.length),(6,ak i)] [] aJ.none h) (bh.ret)
   (aQ.mk [(2,I.bool false)] [] aJ.none h):=
 cO [2] [Hint.b true,Hint.v (iy c),Hint.c (I.bool true) h,Hint.b true] 16 4 9024 (q8 h1 aa ao cN)
theorem QE(s:List UInt8)(i c:Nat)(h:J)
  (h1:lf i s.length=true)
  (aa:qS i s=some (iy c))
  (ao:call (cM.fn 74) [iy c] h=bL.ret (I.bool false) h)
  (aM:arith BinOp.add IntKind.i64 (Int.ofNat i) (Int.ofNat 1)=some (ak (i+1))):
  br an Tryd.f59 none call [1,0,1,0,0] (aQ.mk [(0,I.str s),(5,ak s.length),(6,ak i)] [] aJ.none h) (bh.nrm)
   (aQ.mk [(0,I.str s),(5,ak s.length),(6,ak (i+1))] [] aJ.none h):=
 cO [0,5,6] [Hint.b true,Hint.v (iy c),Hint.c (I.bool false) h,Hint.b false,Hint.v (ak (i+1))] 16 5 144405 (lX h1 aa ao aM cN)
theorem QF(s:List UInt8)(h:J)
  (h1:(!cW s [])=true):
  br an Tryd.f59 none call [1,1] (aQ.mk [(0,I.str s)] [] aJ.none h) (bh.ret)
   (aQ.mk [(2,I.bool (BT s.length 16))] [] aJ.none h):=
 cO [2] (iv 4 15 []) 16 4 8738 (k8 h1 cN)
theorem QG(s:List UInt8)(h:J)
  (h1:(!cW s [])=false):
  br an Tryd.f59 none call [1,1] (aQ.mk [(0,I.str s)] [] aJ.none h) (bh.ret)
   (aQ.mk [(2,I.bool false)] [] aJ.none h):=
 cO [2] (iv 4 0 []) 16 4 8738 (k8 h1 cN)
theorem QH(h:J):
  br an Tryd.f58 none call [] (aQ.mk [(0,I.bool false)] [] aJ.none h) (bh.bm (I.iface 91 (I.agg [])))
   (aQ.mk [] [] aJ.none h):=
 cO [] [Hint.b true] 16 1 2 (k8 (by kernel_rfl:(!false)=true) cN)
theorem QI(h:J):
  br an Tryd.f58 none call [] (aQ.mk [(0,I.bool true)] [] aJ.none h) (bh.nrm)
   (aQ.mk [] [] aJ.none h):=
 cO [] [Hint.b false] 16 1 2 (k8 (by kernel_rfl:(!true)=false) cN)
theorem QJ(s:List UInt8)(c:Nat)(k:Int)(h:J)
  (h1:call (cM.fn 97) [I.str s,iy c] h=bL.ret (I.int IntKind.i64 k) h):
  br an Tryd.f93 none call [] (aQ.mk [(0,I.str s),(1,iy c)] [] aJ.none h) (bh.ret)
   (aQ.mk [(4,I.int IntKind.i64 k)] [] aJ.none h):=
 cO [4] [Hint.c (I.int IntKind.i64 k) h] 16 1 2 (k8 h1 cN)
theorem QK(s:List UInt8)(c:UInt8)(k:Int)(h:J)
  (h1:cW [c] s=true):
  br an Tryd.f90 none call [] (aQ.mk [(0,I.str s),(1,I.str [c])] [] aJ.none h) (bh.ret)
   (aQ.mk [(4,I.int IntKind.i64 0)] [] aJ.none h):=
 cO [4] (iv 5 1 []) 16 5 139811 (q7 (by kernel_rfl:yv (List.length [c]) 0=false) h1 cN)
theorem QL(s:List UInt8)(c:UInt8)(k:Int)(h:J)
  (h1:cW [c] s=false)
  (aa:qS 0 [c]=some (iy (BitVec.toFin (UInt8.toBitVec c)).1))
  (ao:call (cM.fn 93) [I.str s,iy (BitVec.toFin (UInt8.toBitVec c)).1] h=bL.ret (I.int IntKind.i64 k) h):
  br an Tryd.f90 none call [] (aQ.mk [(0,I.str s),(1,I.str [c])] [] aJ.none h) (bh.ret)
   (aQ.mk [(4,I.int IntKind.i64 k)] [] aJ.none h):=
 cO [4] (iv 6 1 [Hint.v (iy (UInt8.toNat c)),Hint.c (I.int IntKind.i64 k) h]) 16 8 572666966 (sW (by kernel_rfl:yv (List.length [c]) 0=false) h1 (by kernel_rfl:yv (List.length [c]) 1=true) aa ao cN)
theorem index(s:List UInt8)(c:UInt8)(k:Int)(h:J)
  (h1:call (cM.fn 90) [I.str s,I.str [c]] h=bL.ret (I.int IntKind.i64 k) h):
  br an Tryd.f85 none call [] (aQ.mk [(0,I.str s),(1,I.str [c])] [] aJ.none h) (bh.ret)
   (aQ.mk [(4,I.int IntKind.i64 k)] [] aJ.none h):=
 cO [4] [Hint.c (I.int IntKind.i64 k) h] 16 1 2 (k8 h1 cN)
theorem split(s sep:List UInt8)(h:J):
  br an Tryd.f73 none call [] (aQ.mk [(0,I.str s),(1,I.str sep),(2,ak 0)] [] aJ.none h) (bh.ret)
   (aQ.mk [(6,I.fn 83 [] [I.ptr (J.n (J.push h (b2.cells [I.str s] 9 e3.own 0 0))) 0,I.ptr (J.n h) 0,I.ptr (J.n (J.push (J.push h (b2.cells [I.str s] 9 e3.own 0 0)) (b2.cells [I.str sep] 9 e3.own 0 0))) 0])] [] aJ.none (J.push (J.push (J.push h (b2.cells [I.str s] 9 e3.own 0 0)) (b2.cells [I.str sep] 9 e3.own 0 0)) (b2.cells [ak 0] 3 e3.own 0 0))):=
 cO [6] [] 16 0 0 cN
theorem QM(s sep:List UInt8)(v:I)(h:J)(ai:J)
  (h1:call (cM.fn 73) [I.str s,I.str sep,ak 0] h=bL.ret v ai):
  br an Tryd.f57 none call [] (aQ.mk [(0,I.str s),(1,I.str sep)] [] aJ.none h) (bh.ret)
   (aQ.mk [(4,v)] [] aJ.none ai):=
 cO [4] [Hint.c v ai] 16 1 2 (k8 h1 cN)
def jG(s:List UInt8):Bool:=s.all (λc=>!vZ c.toNat)&&!s.isEmpty&&decide (s.length<=16)
theorem Il(n:Nat)(s:List UInt8)(h:J)(ae:s.length<=1000000):∀(k i:Nat),s.length-i=k->i<=s.length->
  if(s.drop i).all (λc=>!vZ c.toNat) then k5 an (bH Tryd.f59) none (Y (n+1)) (sub (cS Tryd.f59) [1,0,1,0,0]) (k+1) ⟨[(0,.str s),(5,ak s.length),(6,ak i)],[],.none,h⟩ (.exit 0) ⟨[(0,.str s)],[],.none,h⟩
  else k5 an (bH Tryd.f59) none (Y (n+1)) (sub (cS Tryd.f59) [1,0,1,0,0]) (k+1) ⟨[(0,.str s),(5,ak s.length),(6,ak i)],[],.none,h⟩ .ret ⟨[(2,.bool false)],[],.none,h⟩
 |0,i,hk,ag=>by
  have:s.drop i=[]:=List.drop_eq_nil_of_le (by omega)
  rw[this]
  exact .exit (QC _ s i h (A9 (by omega))) (by simp)
 |k+1,i,hk,ag=>by
  have bN:i<s.length:=by omega
  have al:s.drop i=s[i]::s.drop (i+1):=List.drop_eq_getElem_cons bN
  have ab:=QB n h (c:=(s[i]).toNat) (UInt8.toNat_lt _)
  have a7:=Il n s h ae k (i+1) (by omega) (by omega)
  rw[al,List.all_cons]
  cases aN:vZ (s[i]).toNat with
  |true=>
   rw[aN] at ab
   exact .exit (QD _ s i _ h (sP bN) (FL bN) ab) (by simp)
  |false=>
   rw[aN] at ab
   have aB:=QE (Y (n+1)) s i _ h (sP bN) (FL bN) ab (MS bN (by omega))
   simp only[Bool.not_false,Bool.true_and]
   split
   · rename_i aH;rw[if_pos aH] at a7;exact .step aB a7
   · rename_i aH;rw[if_neg aH] at a7;exact .step aB a7
theorem QN(n:Nat)(s:List UInt8)(h:J)(ae:s.length<=50000):Y (n+2) (.fn 59) [.str s] h=.ret (.bool (jG s)) h:=by
 have aq:=Il n s h (by omega) s.length 0 (by omega) (by omega)
 rw[List.drop_zero] at aq
 have tail:∃e Γ,(e=.ret\/e=.nrm)/\br an Tryd.f59 none (Y (n+1)) [] ⟨jy 0 [.str s],[],.none,h⟩ e (lg Γ h)/\jz an (bH Tryd.f59) Tryd.f59 Γ h=some (.bool (jG s)):=by
  split at aq
  · rename_i aH
    have Cx:br an Tryd.f59 none (Y (n+1)) [1,0,1] _ _ _:=br.block (p:=[1,0,1]) (id:=0) (by kernel_rfl) (gP.run (p:=[1,0,1,0]) (by kernel_rfl) aq (by omega))
    have u4:=(Ik (Y (n+1)) s h)
    have ay:=Ij (Y (n+1)) s h
    have bd:∃Γ,br an Tryd.f59 none (Y (n+1)) [1,1] ⟨[(0,.str s)],[],.none,h⟩ .ret (lg Γ h)/\jz an (bH Tryd.f59) Tryd.f59 Γ h=some (.bool (jG s)):=by
     by_cases he:s=[]
     · refine⟨_,QG _ s h (by rw[he];rfl),?_⟩
       have:jG s=false:=by simp[jG,he]
       rw[this];rfl
     · have ad:cW s []=false:=by
         rw[hA];simpa using he
       refine⟨_,QF _ s h (by rw[ad];rfl),?_⟩
       have aw:lv (Int.ofNat s.length) (Int.ofNat 16)=decide (s.length<=16):=by simp[lv];omega
       have:jG s=decide (s.length<=16):=by
        have n3:s.isEmpty=false:=by cases s<;>simp at he⊢
        simp[jG,aH,n3]
       rw[this,<-aw];rfl
    obtain⟨Γ,QO,QP⟩:=bd
    exact⟨.ret,Γ,.inl rfl,ob [] ay (ob [1] (ob [1,0] u4 Cx) QO),QP⟩
  · rename_i aH
    have Cx:br an Tryd.f59 none (Y (n+1)) [1,0,1] _ _ _:=br.nk (p:=[1,0,1]) (id:=0) (by kernel_rfl) (gP.run (p:=[1,0,1,0]) (by kernel_rfl) aq (by omega)) (by simp)
    have u4:=(Ik (Y (n+1)) s h)
    have ay:=Ij (Y (n+1)) s h
    refine⟨.ret,_,.inl rfl,ob [] ay (Bl [1] (ob [1,0] u4 Cx) (by simp)),?_⟩
    have:jG s=false:=by simp[jG,Bool.eq_false_iff.2 aH]
    rw[this];rfl
 obtain⟨e,Γ,he,ah,eQ⟩:=tail
 exact hZ (n:=n+1) Tryd.func59 ah he eQ
theorem QQ(a b:Nat):dQ (Int.ofNat a) (Int.ofNat b)=decide (a=b):=by
 unfold dQ
 have h1:Int.ofNat a=(a:Int):=rfl
 have aa:Int.ofNat b=(b:Int):=rfl
 rw[h1,aa,Bool.eq_iff_iff]
 simp only[beq_iff_eq,decide_eq_true_eq]
 omega
def fX:List UInt8->List UInt8->List (List UInt8)
 |cur,[]=>[cur]
 |cur,c::l=>if c=47 then cur::fX [] l else fX (cur++[c]) l
theorem Cy:an.underlying 9=some .string:=by kernel_rfl
theorem QR{B:Nat}{h:J}{v:I}{x:List UInt8}{xs:List I}(hY:B<=h.n)(aq:xs.length<=100000)(Ba:xs.all I.cL=true)(ah:aU.Row1 B 9 h v xs):
  ∃v' ai,eA an (h.push (av [.str x] 9)) 35 (some 35) v (.slice h.n 0 1 (.exact 1))=some (v',ai)/\aU.Row1 B 9 ai v' (xs++[.str x])/\Ext B h ai:=by
 have ag:(an.info? 9).map (λi=>(i.size,i.bytes))=some (1,16):=by kernel_rfl
 cases j6:an.info? 9 with
 |none=>rw[j6] at ag;cases ag
 |some i=>
  rw[j6] at ag
  simp only[Option.map_some,Option.some.injEq,Prod.mk.injEq] at ag
  refine MU hY (e:=9) (by kernel_rfl) (by kernel_rfl) j6 ag.1 (z:=.str []) (by kernel_rfl) rfl ?_ rfl Ba ah
  rw[ag.2]
  have:(4*(xs.length+1)+2048)*(16+1)<=281474976710656:=by omega
  simpa[iD] using this
theorem Im(l:List (List UInt8)):(l.map I.str).all I.cL=true:=by
 induction l with
 |nil=>rfl
 |cons a l a7=>simp[I.cL]
def fold:List (List UInt8)->List (List UInt8)->Option (List (List UInt8))
 |st,[]=>some st
 |st,x::l=>if x=[]\/x=[46] then fold st l else if x=[46,46] then(if st=[] then none else fold st.dropLast l) else if jG x=true then fold (st++[x]) l else none
def h6:List UInt8->List (List UInt8)->List UInt8
 |acc,[]=>acc
 |acc,y::l=>h6 (acc++[47]++y) l
def gW(s:List UInt8):Option (List UInt8):=match fold [] (fX [] s) with
 |some (x::l)=>if l.length<8 then some (h6 x l) else none
 |_=>none
theorem QS(a b:List UInt8):cW a b=decide (a=b):=by
 rw[hA,Bool.eq_iff_iff];simp
theorem tr{a b:List UInt8}(h:¬a=b):cW a b=false:=by rw[QS];simp[h]
theorem QT{n:Nat}(h:0<n)(aB:n<=1000000):arith BinOp.sub IntKind.i64 (Int.ofNat n) (Int.ofNat 1)=some (ak (n-1)):=by
 have h1:=nR (n-1) (by omega)
 have e:Int.ofNat n-Int.ofNat 1=((n-1:Nat):Int):=by
  have aw:Int.ofNat n=(n:Int):=rfl
  have ar:Int.ofNat 1=(1:Int):=rfl
  rw[aw,ar];omega
 simp only[arith,e,h1];rfl
theorem QU{h:J}{b e bF ag:Nat}{k:e3}{xs:List (List UInt8)}{rest:List I}(aj:h.get b=some (.cells (xs.map .str++rest) e k bF ag)){i:Nat}(ag:i<xs.length):aO h b (0+i*1)=some (.str xs[i]):=by
 simp only[aO,aj,lE,Nat.zero_add,Nat.mul_one]
 rw[List.getElem?_append_left (by simpa using ag)]
 simp[ag]
theorem QV:an.underlying 35=some (.slice 9):=by kernel_rfl
theorem QW:cG an 9=some 1:=by kernel_rfl
theorem QX{h:J}{b n:Nat}(aB:0<n):gp an h 35 (.slice b 0 n (.aE 1)) none (some (ak (n-1))) none=some (.slice b 0 (n-1) (.aE 1)):=by
 have cC:Nat.ble n n=true:=by simp
 have cE:Nat.ble (n-1) n=true:=by simp
 have gr:Nat.ble 0 (n-1)=true:=by simp
 simp only[gp,QV,QW,bounds,ia,ez,cC,cE,gr,if_true]
theorem QY{x:List UInt8}(h:jG x=true):x.length<=16:=by
 simp only[jG,Bool.and_eq_true,decide_eq_true_eq] at h
 exact h.2
theorem Cz:∀(s cur:List UInt8),(fX cur s).length<=s.length+1
 |[],cur=>by simp[fX]
 |c::s,cur=>by
  simp only[fX]
  split
  · have:=Cz s []
    simp;omega
  · have:=Cz s (cur++[c])
    simp;omega
theorem QZ(n:Nat)(s:List UInt8)(h:J):Y (n+1) (.fn 97) [.str s,iy 47] h=.ret (.int .i64 (lz 47 s 0)) h:=by
 unfold Y
 kernel_rfl
theorem Q0(n:Nat)(s:List UInt8)(h:J):Y (n+2) (.fn 93) [.str s,iy 47] h=.ret (.int .i64 (lz 47 s 0)) h:=
 hZ (intr:=fK) (n:=n+1) (args:=[.str s,iy 47]) Tryd.func93 (QJ (Y (n+1)) s 47 _ h (QZ n s h)) (.inl rfl) (by kernel_rfl)
def pX:List UInt8->Int:=λs=>lz 47 s 0
theorem Q1(n:Nat)(s:List UInt8)(h:J):Y (n+3) (.fn 90) [.str s,.str [47]] h=.ret (.int .i64 (pX s)) h:=by
 cases ad:cW [47] s with
 |true=>
  have ae:s=[47]:=by
   rw[hA] at ad
   exact(eq_of_beq ad).symm
  have dg:pX s=0:=by rw[ae];rfl
  rw[dg]
  exact hZ (intr:=fK) (n:=n+2) (args:=[.str s,.str [47]]) Tryd.func90 (QK (Y (n+2)) s 47 0 h ad) (.inl rfl) (by kernel_rfl)
 |false=>
  exact hZ (intr:=fK) (n:=n+2) (args:=[.str s,.str [47]]) Tryd.func90 (QL (Y (n+2)) s 47 _ h ad rfl (Q0 n s h)) (.inl rfl) (by kernel_rfl)
theorem Q2(n:Nat)(s:List UInt8)(h:J):Y (n+4) (.fn 85) [.str s,.str [47]] h=.ret (.int .i64 (pX s)) h:=
 hZ (intr:=fK) (n:=n+3) (args:=[.str s,.str [47]]) Tryd.func85 (index (Y (n+3)) s 47 _ h (Q1 n s h)) (.inl rfl) (by kernel_rfl)
theorem Io:∀(s cur:List UInt8) (i:Nat),(lz 47 s i=-1/\fX cur s=[cur++s])\/
  (∃p r,s=p++47::r/\lz 47 s i=Int.ofNat (i+p.length)/\fX cur s=(cur++p)::fX [] r)
 |[],cur,i=>.inl ⟨rfl,by simp[fX]⟩
 |c::l,cur,i=>by
  by_cases ab:c=47
  · refine .inr ⟨[],l,by simp[ab],?_,by simp[fX,ab]⟩
    simp[lz,ab]
  · have ad:Nat.beq c.toNat 47=false:=by
      cases bj:Nat.beq c.toNat 47 with
      |false=>rfl
      |true=>exact absurd (UInt8.toNat_inj.1 ((Nat.eq_of_beq_eq_true bj).trans rfl)) ab
    rcases Io l (cur++[c]) (i+1) with⟨h1,aa⟩|⟨p,r,h1,aa,ao⟩
    · exact .inl ⟨by simp[lz,ad,h1],by simp[fX,ab,aa]⟩
    · refine .inr ⟨c::p,r,by simp[h1],?_,by simp[fX,ab,ao]⟩
      simp only[lz,ad,aa,List.length_cons]
      congr 1;omega
theorem Q3(s:List UInt8):(pX s=-1/\fX [] s=[s])\/(∃p r,s=p++47::r/\pX s=Int.ofNat p.length/\fX [] s=p::fX [] r):=by
 simpa[pX] using Io s [] 0
def kE(s:List UInt8)(h:J):J:=((h.push (av [.str s] 9)).push (av [.str [47]] 9)).push (av [ak 0] 3)
theorem Q4(n:Nat)(s:List UInt8)(h:J):Y (n+2) (.fn 57) [.str s,.str [47]] h=.ret (.fn 83 [] [.ptr (h.n+1) 0,.ptr h.n 0,.ptr (h.n+2) 0]) (kE s h):=by
 have Q5:Y (n+1) (.fn 73) [.str s,.str [47],ak 0] h=.ret (.fn 83 [] [.ptr (h.n+1) 0,.ptr h.n 0,.ptr (h.n+2) 0]) (kE s h):=
  hZ (intr:=fK) (n:=n) (args:=[.str s,.str [47],ak 0]) Tryd.func73 (split (Y n) s [47] h) (.inl rfl) (by kernel_rfl)
 exact hZ (intr:=fK) (n:=n+1) (args:=[.str s,.str [47]]) Tryd.func57 (QM (Y (n+1)) s [47] _ h _ Q5) (.inl rfl) (by kernel_rfl)
theorem Q6(y:I)(b:Nat)(h:J)
  (h1:aO h (b+1) 0=some (I.str [47])):
  br an Tryd.f83 none call [0] (aQ.mk [(0,y),(1,I.ptr (b+1) 0),(2,I.ptr b 0),(3,I.ptr (b+2) 0)] [] aJ.none h) (bh.nrm)
   (aQ.mk [(0,y),(1,I.ptr (b+1) 0),(2,I.ptr b 0),(3,I.ptr (b+2) 0)] [] aJ.none h):=
 cO [0,1,2,3] [Hint.v (I.str [47]),Hint.b false] 16 2 35 (q7 h1 (by kernel_rfl:yv (List.length [47]) 0=false) cN)
theorem Q7(y:I)(b:Nat)(s:List UInt8)(k:Int)(h:J)
  (h1:aO h b 0=some (I.str s))
  (aa:aO h (b+1) 0=some (I.str [47]))
  (ao:call (cM.fn 85) [I.str s,I.str [47]] h=bL.ret (I.int IntKind.i64 k) h)
  (aM:eW k (Int.ofNat 0)=true):
  br an Tryd.f83 none call [1,0,0,0] (aQ.mk [(0,y),(1,I.ptr (b+1) 0),(2,I.ptr b 0),(3,I.ptr (b+2) 0)] [] aJ.none h) (bh.exit 2)
   (aQ.mk [(0,y),(1,I.ptr (b+1) 0),(2,I.ptr b 0),(3,I.ptr (b+2) 0)] [] aJ.none h):=
 cO [0,1,2,3] [Hint.v (I.str s),Hint.v (I.str [47]),Hint.c (I.int IntKind.i64 k) h,Hint.b true] 16 4 9029 (lX h1 aa ao aM cN)
theorem Q8(l b i:Nat)(s p r:List UInt8)(h:J)(ai:J)(e0:J)
  (h1:aO h b 0=some (I.str s))
  (aa:aO h (b+1) 0=some (I.str [47]))
  (ao:call (cM.fn 85) [I.str s,I.str [47]] h=bL.ret (ak i) h)
  (aM:aO h (b+2) 0=some (ak 0))
  (bA:arith BinOp.add IntKind.i64 (Int.ofNat i) (Int.ofNat 0)=some (ak i))
  (dB:gp an h 9 (I.str s) none (some (ak i)) none=some (I.str p))
  (eK:call (cM.bY l) [I.str p] h=bL.ret (I.bool true) ai)
  (lG:aO ai b 0=some (I.str s))
  (qf:aO ai (b+1) 0=some (I.str [47]))
  (AF:arith BinOp.add IntKind.i64 (Int.ofNat i) (Int.ofNat (List.length [47]))=some (ak (i+1)))
  (AG:gp an ai 9 (I.str s) (some (ak (i+1))) none none=some (I.str r))
  (Q9:some 1=some (List.length [I.str r])/\aU.storeCells ai b 0 [I.str r]=some e0/\I.aF []=I.aF []):
  br an Tryd.f83 none call [1,0,0,0] (aQ.mk [(0,I.bY l),(1,I.ptr (b+1) 0),(2,I.ptr b 0),(3,I.ptr (b+2) 0)] [] aJ.none h) (bh.nrm)
   (aQ.mk [(0,I.bY l),(1,I.ptr (b+1) 0),(2,I.ptr b 0),(3,I.ptr (b+2) 0)] [] aJ.none e0):=
 cO [0,1,2,3] [Hint.v (I.str s),Hint.v (I.str [47]),Hint.c (ak i) h,Hint.b false,Hint.v (I.str s),Hint.v (ak 0),Hint.v (ak i),Hint.v (I.str p),Hint.c (I.bool true) ai,Hint.b false,Hint.v (I.str s),Hint.v (I.str [47]),Hint.v (ak (i+1)),Hint.v (I.str r),Hint.hE (I.aF []) e0] 16 15 0x234526789abcdef (yh h1 aa ao (by kernel_rfl:lf i 0=false) aM bA dB eK (by kernel_rfl:(!true)=false)<|sW lG qf AF AG Q9 cN)
theorem Q_(l b i:Nat)(s p:List UInt8)(h:J)(ai:J)
  (h1:aO h b 0=some (I.str s))
  (aa:aO h (b+1) 0=some (I.str [47]))
  (ao:call (cM.fn 85) [I.str s,I.str [47]] h=bL.ret (ak i) h)
  (aM:aO h (b+2) 0=some (ak 0))
  (bA:arith BinOp.add IntKind.i64 (Int.ofNat i) (Int.ofNat 0)=some (ak i))
  (dB:gp an h 9 (I.str s) none (some (ak i)) none=some (I.str p))
  (eK:call (cM.bY l) [I.str p] h=bL.ret (I.bool false) ai):
  br an Tryd.f83 none call [1,0,0,0] (aQ.mk [(0,I.bY l),(1,I.ptr (b+1) 0),(2,I.ptr b 0),(3,I.ptr (b+2) 0)] [] aJ.none h) (bh.ret)
   (aQ.mk [(0,I.bY l),(1,I.ptr (b+1) 0),(2,I.ptr b 0),(3,I.ptr (b+2) 0)] [] aJ.none ai):=
 cO [0,1,2,3] [Hint.v (I.str s),Hint.v (I.str [47]),Hint.c (ak i) h,Hint.b false,Hint.v (I.str s),Hint.v (ak 0),Hint.v (ak i),Hint.v (I.str p),Hint.c (I.bool false) ai,Hint.b true] 16 10 151484004506 (yh h1 aa ao (by kernel_rfl:lf i 0=false) aM bA dB eK (by kernel_rfl:(!false)=true) cN)
theorem Ra(l b i:Nat)(s p:List UInt8)(w:I)(h:J)(ai:J)
  (h1:aO h b 0=some (I.str s))
  (aa:aO h (b+1) 0=some (I.str [47]))
  (ao:call (cM.fn 85) [I.str s,I.str [47]] h=bL.ret (ak i) h)
  (aM:aO h (b+2) 0=some (ak 0))
  (bA:arith BinOp.add IntKind.i64 (Int.ofNat i) (Int.ofNat 0)=some (ak i))
  (dB:gp an h 9 (I.str s) none (some (ak i)) none=some (I.str p))
  (eK:call (cM.bY l) [I.str p] h=bL.bm w ai):
  br an Tryd.f83 none call [1,0,0,0] (aQ.mk [(0,I.bY l),(1,I.ptr (b+1) 0),(2,I.ptr b 0),(3,I.ptr (b+2) 0)] [] aJ.none h) (bh.bm w)
   (aQ.mk [] [] aJ.none ai):=
 cO [] [Hint.v (I.str s),Hint.v (I.str [47]),Hint.c (ak i) h,Hint.b false,Hint.v (I.str s),Hint.v (ak 0),Hint.v (ak i),Hint.v (I.str p),Hint.p w ai] 16 9 9467750281 (Bk h1 aa ao (by kernel_rfl:lf i 0=false) aM bA dB eK cN)
theorem Rb(l b:Nat)(s:List UInt8)(v:I)(h:J)(ai:J)
  (h1:aO h b 0=some (I.str s))
  (aa:call (cM.bY l) [I.str s] h=bL.ret v ai):
  br an Tryd.f83 none call [1,1] (aQ.mk [(0,I.bY l),(1,I.ptr (b+1) 0),(2,I.ptr b 0),(3,I.ptr (b+2) 0)] [] aJ.none h) (bh.nrm)
   (aQ.mk [] [] aJ.none ai):=
 cO [] [Hint.v (I.str s),Hint.c v ai] 16 2 35 (q7 h1 aa cN)
theorem Rc(l b:Nat)(s:List UInt8)(v:I)(h:J)(ai:J)
  (h1:aO h b 0=some (I.str s))
  (aa:call (cM.bY l) [I.str s] h=bL.bm v ai):
  br an Tryd.f83 none call [1,1] (aQ.mk [(0,I.bY l),(1,I.ptr (b+1) 0),(2,I.ptr b 0),(3,I.ptr (b+2) 0)] [] aJ.none h) (bh.bm v)
   (aQ.mk [] [] aJ.none ai):=
 cO [] [Hint.v (I.str s),Hint.p v ai] 16 2 35 (q7 h1 aa cN)
def rU(l b:Nat):Env:=[(0,.bY l),(1,.ptr (b+1) 0),(2,.ptr b 0),(3,.ptr (b+2) 0)]
def Ip(b:Nat)(s:List UInt8)(h:J):Prop:=aO h b 0=some (.str s)/\aO h (b+1) 0=some (.str [47])/\aO h (b+2) 0=some (ak 0)
theorem Iq(call:cJ)(l b:Nat)(cr:List UInt8->J->Prop)(Q:J->Prop)(R:I->J->Prop)
  (v7:∀s h,call (.fn 85) [.str s,.str [47]] h=.ret (.int .i64 (pX s)) h)
  (h4:∀s h,cr s h->Ip b s h)
  (kd:∀s p r h,cr s h->s=p++47::r->fX [] s=p::fX [] r->
   (∃ai e0,call (.bY l) [.str p] h=.ret (.bool true) ai/\aO ai b 0=some (.str s)/\aO ai (b+1) 0=some (.str [47])/\aU.storeCells ai b 0 [.str r]=some e0/\cr r e0)\/
   (∃ai,call (.bY l) [.str p] h=.ret (.bool false) ai/\Q ai)\/(∃w ai,call (.bY l) [.str p] h=.bm w ai/\R w ai)):
  ∀(k:Nat) (s:List UInt8) (h:J),s.length<=k->s.length<=50000->cr s h->
   (∃aD ai,gP an Tryd.f83 none call [1,0,0] (k+1) ⟨rU l b,[],.none,h⟩ (.exit 2) ⟨rU l b,[],.none,ai⟩/\cr aD ai/\fX [] aD=[aD])\/
   (∃ai,gP an Tryd.f83 none call [1,0,0] (k+1) ⟨rU l b,[],.none,h⟩ .ret ⟨rU l b,[],.none,ai⟩/\Q ai)\/
   (∃w ai,gP an Tryd.f83 none call [1,0,0] (k+1) ⟨rU l b,[],.none,h⟩ (.bm w) ⟨[],[],.none,ai⟩/\R w ai)
 |k,s,h,hk,ae,ag=>by
  obtain⟨c1,c2,c3⟩:=h4 s h ag
  rcases Q3 s with⟨aw,ar⟩|⟨p,r,aw,ar,bn⟩
  · exact .inl ⟨s,h,.exit (Q7 call (.bY l) b s (-1) h c1 c2 (by rw[v7,aw]) (by kernel_rfl)) (by simp),ag,ar⟩
  · have aq:s.length=p.length+(r.length+1):=by rw[aw];simp
    have a0:arith .add .i64 (Int.ofNat p.length) (Int.ofNat 0)=some (ak p.length):=FK (j:=0) (by omega)
    have bl:arith .add .i64 (Int.ofNat p.length) (Int.ofNat (List.length [(47:UInt8)]))=some (ak (p.length+1)):=FK (j:=1) (by omega)
    have aK:gp an h 9 (.str s) none (some (ak p.length)) none=some (.str p):=by
     rw[FO Cy (by omega),aw];simp
    have CA:call (.fn 85) [.str s,.str [47]] h=.ret (ak p.length) h:=by rw[v7,ar]
    rcases kd s p r h ag aw bn with⟨ai,e0,ir,eS,Re,kF,kG⟩|⟨ai,ir,eS⟩|⟨w,ai,ir,eS⟩
    · have a_:gp an ai 9 (.str s) (some (ak (p.length+1))) none none=some (.str r):=by
        rw[MW Cy (by omega),aw]
        congr 2
        rw[List.drop_append];simp
      have aB:=Q8 call l b p.length s p r h ai e0 c1 c2 CA c3 a0 aK ir eS Re bl a_ ⟨rfl,kF,rfl⟩
      cases k with
      |zero=>omega
      |succ k=>
       rcases Iq call l b cr Q R v7 h4 kd k r e0 (by omega) (by omega) kG with⟨aD,x,b5,z2⟩|⟨x,b5,z2⟩|⟨w,x,b5,z2⟩
       · exact .inl ⟨aD,x,.step aB b5,z2⟩
       · exact .inr (.inl ⟨x,.step aB b5,z2⟩)
       · exact .inr (.inr ⟨w,x,.step aB b5,z2⟩)
    · exact .inr (.inl ⟨ai,.exit (Q_ call l b p.length s p h ai c1 c2 CA c3 a0 aK ir) (by simp),eS⟩)
    · exact .inr (.inr ⟨w,ai,.exit (Ra call l b p.length s p w h ai c1 c2 CA c3 a0 aK ir) (by simp),eS⟩)
theorem Rf(n l b:Nat)(cr:List UInt8->J->Prop)(Q:J->Prop)(R:I->J->Prop)
  (v7:∀s h,Y n (.fn 85) [.str s,.str [47]] h=.ret (.int .i64 (pX s)) h)
  (h4:∀s h,cr s h->Ip b s h)
  (kd:∀s p r h,cr s h->s=p++47::r->fX [] s=p::fX [] r->
   (∃ai e0,Y n (.bY l) [.str p] h=.ret (.bool true) ai/\aO ai b 0=some (.str s)/\aO ai (b+1) 0=some (.str [47])/\aU.storeCells ai b 0 [.str r]=some e0/\cr r e0)\/
   (∃ai,Y n (.bY l) [.str p] h=.ret (.bool false) ai/\Q ai)\/(∃w ai,Y n (.bY l) [.str p] h=.bm w ai/\R w ai))
  (mW:∀s h,cr s h->fX [] s=[s]->(∃v ai,Y n (.bY l) [.str s] h=.ret v ai/\Q ai)\/(∃w ai,Y n (.bY l) [.str s] h=.bm w ai/\R w ai))
  (s:List UInt8)(h:J)(ae:s.length<=50000)(ag:cr s h):
  (∃ai,Y (n+1) (.fn 83) [.bY l,.ptr (b+1) 0,.ptr b 0,.ptr (b+2) 0] h=.ret (.aF []) ai/\Q ai)\/
  (∃w ai,Y (n+1) (.fn 83) [.bY l,.ptr (b+1) 0,.ptr b 0,.ptr (b+2) 0] h=.bm w ai/\R w ai):=by
 have ay:=Q6 (Y n) (.bY l) b h (h4 s h ag).2.1
 have fin:∀{e:bh} {Γ:Env} {ai:J},(e=.ret\/e=.nrm)->br an Tryd.f83 none (Y n) [1] ⟨rU l b,[],.none,h⟩ e (lg Γ ai)->jz an (bH Tryd.f83) Tryd.f83 Γ ai=some (.aF [])->
   Y (n+1) (.fn 83) [.bY l,.ptr (b+1) 0,.ptr b 0,.ptr (b+2) 0] h=.ret (.aF []) ai:=λhe ah eQ=>
  hZ (intr:=fK) (n:=n) (args:=[.bY l,.ptr (b+1) 0,.ptr b 0,.ptr (b+2) 0]) Tryd.func83 (ob [] ay ah) he eQ
 have bm:∀{w:I} {Γ:Env} {ai:J},br an Tryd.f83 none (Y n) [1] ⟨rU l b,[],.none,h⟩ (.bm w) (lg Γ ai)->
   Y (n+1) (.fn 83) [.bY l,.ptr (b+1) 0,.ptr b 0,.ptr (b+2) 0] h=.bm w ai:=λah=>
  A8 (intr:=fK) (n:=n) (args:=[.bY l,.ptr (b+1) 0,.ptr b 0,.ptr (b+2) 0]) Tryd.func83 (by kernel_rfl) rfl (by kernel_rfl) (ob [] ay ah)
 rcases Iq (Y n) l b cr Q R v7 h4 kd s.length s h (Nat.le_refl _) ae ag with⟨aD,ai,b5,z2,z3⟩|⟨ai,b5,z2⟩|⟨w,ai,b5,z2⟩
 · have ad:=br.block (p:=[1,0]) (id:=2) (by kernel_rfl) (gP.run (p:=[1,0,0]) (by kernel_rfl) b5 (by omega))
   have c1:=(h4 aD ai z2).1
   rcases mW aD ai z2 z3 with⟨v,e0,ir,eS⟩|⟨w,e0,ir,eS⟩
   · exact .inl ⟨e0,fin (.inr rfl) (ob [1] ad (Rb (Y n) l b aD v ai e0 c1 ir)) (by kernel_rfl),eS⟩
   · exact .inr ⟨w,e0,bm (ob [1] ad (Rc (Y n) l b aD w ai e0 c1 ir)),eS⟩
 · have ad:=br.nk (p:=[1,0]) (id:=2) (by kernel_rfl) (gP.run (p:=[1,0,0]) (by kernel_rfl) b5 (by omega)) (by simp)
   exact .inl ⟨ai,fin (.inl rfl) (Bl [1] ad (by simp)) (by kernel_rfl),z2⟩
 · have ad:=br.nk (p:=[1,0]) (id:=2) (by kernel_rfl) (gP.run (p:=[1,0,0]) (by kernel_rfl) b5 (by omega)) (by simp)
   exact .inr ⟨w,ai,bm (Bl [1] ad (by simp)),z2⟩
theorem Rg(b:Nat)(h ew:J)
  (H1:aO h b (0+0)=some .d_)
  (ch:hQ an 113 134 (I.ptr b 0) h=h9.val (I.ptr b 0) h)
  (c6:call (.fn 91) [aA b] h=bL.ret (aA b) h)
  (hJ:hQ an 134 113 (I.ptr b 0) h=h9.val (I.ptr b 0) h)
  (rV:aU.storeCells h b (0+0) [aA b]=some ew):
  br an Tryd.f86 none call [] (bb [(0,aA b)] h) (.nrm)
   (bb [] ew):=
 cO [] [.v .d_,.v (.bool true),.b true,.v (aA b),.c (aA b) h,.v (aA b),.hE (.aF []) ew] 16 7 36717927 (No H1 (by kernel_rfl:eo an h BinOp.eql 113 (Operand.tmp 5) (Operand.const (Value.pointer none)) I.d_ I.d_=some (I.bool true)) ch c6 hJ (⟨by kernel_rfl,rV,rfl⟩:some 1=some 1/\aU.storeCells h b (0+0) [I.ptr b 0]=some ew/\I.aF []=I.aF []) cN)
theorem Rh(b:Nat)(h:J)(CB:Bool)
  (H1:aO h b (0+0)=some (aA b))
  (ch:eo an h BinOp.neq 113 (Operand.tmp 17) (Operand.tmp 18) (I.ptr b 0) (I.ptr b 0)=some (I.bool CB))
  (c6:CB=false):
  br an Tryd.f86 none call [] (bb [(0,aA b)] h) (.nrm)
   (bb [] h):=
 cO [] [.v (aA b),.v (.bool false),.b false,.v (aA b),.v (.bool CB),.b false] 16 6 2298437 (lX H1 (by kernel_rfl:eo an h BinOp.eql 113 (Operand.tmp 5) (Operand.const (Value.pointer none)) (I.ptr b 0) I.d_=some (I.bool false)) ch c6 cN)
theorem bws(b c m:Nat)(s:List UInt8)(v:I)(h aa ew h7:J)
  (H1:call (.fn 86) [aA b] h=bL.ret (.aF []) ew)
  (ch:aO ew b (0+1)=some v)
  (c6:eA an ew 56 (some 9) v (I.str s)=some (I.slice c 0 m (cy.aE 1),aa))
  (hJ:aU.storeCells aa b (0+1) [.slice c 0 m (.aE 1)]=some h7):
  br an Tryd.f76 none call [] (bb [(0,aA b),(1,.str s)] h) (.ret)
   (bb [(4,ak s.length),(5,.dY)] h7):=
 cO [4,5] [.c (.aF []) ew,.v v,.hE (.slice c 0 m (.aE 1)) aa,.hE (.aF []) h7] 16 4 9029 (lX H1 ch c6 (⟨by kernel_rfl,hJ,rfl⟩:some 1=some 1/\aU.storeCells aa b (0+1) [I.slice c 0 m (cy.aE 1)]=some h7/\I.aF []=I.aF []) cN)
theorem Ir(b:Nat)(s:List UInt8)(v:I)(h aa ew h7:J)
  (H1:call (.fn 86) [aA b] h=bL.ret (.aF []) ew)
  (ch:aO ew b (0+1)=some v)
  (c6:eA an ew 56 (some 9) v (I.str s)=some (I.bK,aa))
  (hJ:aU.storeCells aa b (0+1) [.bK]=some h7):
  br an Tryd.f76 none call [] (bb [(0,aA b),(1,.str s)] h) (.ret)
   (bb [(4,ak s.length),(5,.dY)] h7):=
 cO [4,5] [.c (.aF []) ew,.v v,.hE .bK aa,.hE (.aF []) h7] 16 4 9029 (lX H1 ch c6 (⟨by kernel_rfl,hJ,rfl⟩:some 1=some 1/\aU.storeCells aa b (0+1) [I.bK]=some h7/\I.aF []=I.aF []) cN)
theorem Ri(b c m:Nat)(h:J)(jH:List UInt8)(ew:J)
  (H1:aO (J.room h 12) b (0+1)=some (.slice c 0 m (.aE 1)))
  (ch:hd an Builtin.unsafeSliceData (Array.mk [56]) [.slice c 0 m (.aE 1)] (J.room h 12)=h9.val (aA c) (J.room h 12))
  (c6:nJ an (J.room h 12) 130 (I.ptr c 0) (ak m)=some (I.str jH,ew)):
  br an Tryd.f77 none call [] (bb [(0,aA b)] h) (.ret)
   (bb [(2,.str jH)] ew):=
 cO [2] [.v (.slice c 0 m (.aE 1)),.v (aA c),.v (.slice c 0 m (.aE 1)),.hE (.str jH) ew] 16 26 0x232456567892a356567892bcde (yh H1 ch c6 (lW (aA b)) (sV (aA b)) (lW (.ptr b (0+1))) (sV (.ptr b (0+1))) (lW (.slice c 0 m (cy.aE 1))) (lW (aA c))<|lX (lW (ak m)) (by kernel_rfl:gX an (J.room h 12) 56 (I.slice c 0 m (cy.aE 1))=some (ak m)) (lW (.str jH)) (sV (.str jH)) cN)
theorem Rj(b:Nat)(h:J)(jH:List UInt8)(ew:J)
  (H1:aO (J.room h 12) b (0+1)=some .bK)
  (ch:nJ an (J.room h 12) 130 I.d_ (ak 0)=some (I.str jH,ew)):
  br an Tryd.f77 none call [] (bb [(0,aA b)] h) (.ret)
   (bb [(2,.str jH)] ew):=
 cO [2] [.v .bK,.v .d_,.v .bK,.hE (.str jH) ew] 16 26 0x232456567892a356567892bcde (yh H1 (by kernel_rfl:hd an Builtin.unsafeSliceData (Array.mk [56]) [I.bK] (J.room h 12)=h9.val I.d_ (J.room h 12)) ch (lW (aA b)) (sV (aA b)) (lW (.ptr b (0+1))) (sV (.ptr b (0+1))) (lW .bK) (lW .d_)<|lX (lW (ak 0)) (by kernel_rfl:gX an (J.room h 12) 56 I.bK=some (ak 0)) (lW (.str jH)) (sV (.str jH)) cN)
theorem Rk(m b off N:Nat)(cp:cy)(h:J)(H:¬N=0/\(N=1->0<N/\∃s1,aO h b (off+0*1)=some (.str s1)/\R (.ret (.str s1) h))/\(¬N=1->(0<1->(1<=N/\N<9223372036854775808)/\∃aY,arith .quo .i64 (.ofNat 9223372036854775807) (.ofNat (N-1))=some (ak aY)/\¬aY<=1/\(1<=N/\N<9223372036854775808)/\1*(N-1)<9223372036854775808/\0+1*(N-1)<9223372036854775808/\cc an Tryd.f60 (Y m) [1,1,1,1,0,1,0] (bb [(0,.slice b off N cp),(1,.str [47]),(5,ak (0+1*(N-1))),(39,.slice b off N cp),(40,ak N),(41,ak 0)] h) (λfj fk=>∃bQ g1 dx,fj=.exit 1/\fk=bb dx g1/\eu [(0,.slice b off N cp),(1,.str [47]),(5,ak bQ)] dx/\∃g2,Y m (.fn 75) [aA g1.n,ak bQ] (J.push g1 (av [.d_,.bK] 115))=.ret (.aF []) g2/\0<N/\∃s2,aO g2 b (off+0*1)=some (.str s2)/\∃cX v1 g3,Y m (.fn 76) [aA g1.n,.str s2] g2=.ret (.aF [ak cX,v1]) g3/\∃dL fL n6,∃c1:cy,gp an g3 35 (.slice b off N cp) (some (ak 1)) none none=some (.slice dL fL n6 c1)/\cc an Tryd.f60 (Y m) [1,1,1,1,1,1,1,1,0,1,0] (bb [(1,.str [47]),(8,aA g1.n),(63,.slice dL fL n6 c1),(64,ak n6),(65,ak 0)] g3) (λfj fk=>∃n7 g4 l2,fj=.exit 3/\fk=bb l2 g4/\eu [(8,aA n7)] l2/\∃bw g5,Y m (.fn 77) [aA n7] g4=.ret (.str bw) g5/\R (.ret (.str bw) g5))))/\(¬0<1->cc an Tryd.f60 (Y m) [1,1,1,1,0,1,0] (bb [(0,.slice b off N cp),(1,.str [47]),(5,ak 0),(39,.slice b off N cp),(40,ak N),(41,ak 0)] h) (λfj fk=>∃n8 g6 pj,fj=.exit 1/\fk=bb pj g6/\eu [(0,.slice b off N cp),(1,.str [47]),(5,ak n8)] pj/\∃g7,Y m (.fn 75) [aA g6.n,ak n8] (J.push g6 (av [.d_,.bK] 115))=.ret (.aF []) g7/\0<N/\∃bG,aO g7 b (off+0*1)=some (.str bG)/\∃pY v2 g8,Y m (.fn 76) [aA g6.n,.str bG] g7=.ret (.aF [ak pY,v2]) g8/\∃n10 n11 n12,∃c2:cy,gp an g8 35 (.slice b off N cp) (some (ak 1)) none none=some (.slice n10 n11 n12 c2)/\cc an Tryd.f60 (Y m) [1,1,1,1,1,1,1,1,0,1,0] (bb [(1,.str [47]),(8,aA g6.n),(63,.slice n10 n11 n12 c2),(64,ak n12),(65,ak 0)] g8) (λfj fk=>∃n13 g9 v8,fj=.exit 3/\fk=bb v8 g9/\eu [(8,aA n13)] v8/\∃bP g10,Y m (.fn 77) [aA n13] g9=.ret (.str bP) g10/\R (.ret (.str bP) g10)))))):
  R (Y (m+1) (.fn 60) [.slice b off N cp,.str [47]] h):=
 hq [(1013,.f),(1029,.f),(63,.bJ .jO),(4001,.gR [0,1,5,39,40,41] [(.exit 1,[(0,.is (.slice b off N cp)),(1,.is (.str [47])),(5,.n .i64)])]),(4003,.gR [1,8,63,64,65] [(.exit 3,[(8,.p)])])] [] Tryd.func60 H
theorem Rl(b off N i n:Nat)(cp:cy)(h:J)(H:(i<N->i<N/\∃s1,aO h b (off+i*1)=some (.str s1)/\(n<=9223372036854775807/\9223372036854775807<9223372036854775808)/\¬9223372036854775807-n<List.length s1/\n+List.length s1<9223372036854775808/\i+1<9223372036854775808/\Q .nrm (bb [(0,.slice b off N cp),(1,.str [47]),(5,ak (n+List.length s1)),(39,.slice b off N cp),(40,ak N),(41,ak (i+1))] h))/\(¬i<N->Q (.exit 1) (bb [(0,.slice b off N cp),(1,.str [47]),(5,ak n),(39,.slice b off N cp),(40,ak N),(41,ak i)] h))):
  cc an Tryd.f60 call [1,1,1,1,0,1,0,0] (bb [(0,.slice b off N cp),(1,.str [47]),(5,ak n),(39,.slice b off N cp),(40,ak N),(41,ak i)] h) Q:=
 fy [(1049,.f)] [0,1,5,39,40,41] [] H
theorem Rm(w b off N i:Nat)(cp:cy)(h:J)(H:(i<N->i<N/\∃s1,aO h b (off+i*1)=some (.str s1)/\∃aY v1 g1,call (.fn 76) [aA w,.str [47]] h=.ret (.aF [ak aY,v1]) g1/\∃bQ v2 g2,call (.fn 76) [aA w,.str s1] g1=.ret (.aF [ak bQ,v2]) g2/\i+1<9223372036854775808/\Q .nrm (bb [(1,.str [47]),(8,aA w),(63,.slice b off N cp),(64,ak N),(65,ak (i+1))] g2))/\(¬i<N->Q (.exit 3) (bb [(1,.str [47]),(8,aA w),(63,.slice b off N cp),(64,ak N),(65,ak i)] h))):
  cc an Tryd.f60 call [1,1,1,1,1,1,1,1,0,1,0,0] (bb [(1,.str [47]),(8,aA w),(63,.slice b off N cp),(64,ak N),(65,ak i)] h) Q:=
 fy [] [1,8,63,64,65] [] H
theorem Rn(m b n:Nat)(h:J)(H:∃g1,Y m (.fn 86) [aA b] h=.ret (.aF []) g1/\¬n<0/\∃v1,aO (g1.room 13) b 1=some v1/\∃aY,r1 an 56 v1=some (ak aY)/\∃v2,aO (g1.room 13) b 1=some v2/\∃bQ,gX an (g1.room 13) 56 v2=some (ak bQ)/\(bQ<=aY/\aY<9223372036854775808)/\kx v1/\kx v2/\aY-bQ<n/\∃g2,Y m (.fn 87) [aA b,ak n] (g1.room 13)=.ret (.aF []) g2/\R (.ret (.aF []) g2)):
  R (Y (m+1) (.fn 75) [aA b,ak n] h):=
 hq [(1007,.f),(1021,.t)] [] Tryd.func75 H
theorem Ro(m b n:Nat)(h:J)(H:∃v1,aO (h.room 16) b 1=some v1/\∃aY,r1 an 56 v1=some (ak aY)/\2*aY<9223372036854775808/\2*aY+n<9223372036854775808/\∃bQ cX dL,∃c1:cy,∃g1,Y m (.fn 92) [ak (2*aY+n)] (h.room 16)=.ret (.slice bQ cX dL c1) g1/\∃v2,aO g1 b 1=some v2/\∃fL,gX an g1 56 v2=some (ak fL)/\∃v3,gp an g1 56 (.slice bQ cX dL c1) none (some (ak fL)) none=some v3/\kx v1/\kx v2/\aO (h.room 16) b 1=some v2/\kx v3/\kx v3/\∃v4,aO g1 b 1=some v4/\∃n6 g2,r2 an g1 56 v3 v4=some (ak n6,g2)/\NP v3/\∃g3,aU.storeCells g2 b 1 [v3]=some g3/\R (.ret (.aF []) g3)):
  R (Y (m+1) (.fn 87) [aA b,ak n] h):=
 hq [(13,.bJ .jO)] [] Tryd.func87 H
theorem Rp{P:Program}{h:J}{T E b n k:Nat}(hu:P.underlying T=some (.slice E))(ae:cG P E=some 1)(hk:k<=n):gp P h T (.slice b 0 n (.aE 1)) none (some (ak k)) none=some (.slice b 0 k (.aE 1)):=by
 have cC:Nat.ble n n=true:=by rw[Nat.ble_eq];omega
 have cE:Nat.ble k n=true:=by rw[Nat.ble_eq];omega
 have gr:Nat.ble 0 k=true:=by rw[Nat.ble_eq];omega
 simp only[gp,hu,ae,bounds,ia,ez,cC,cE,gr,if_true,Nat.sub_zero]
def v_(B b:Nat)(h:J)(w:List UInt8):Prop:=∃a v,h.get b=some (av [a,v] 115)/\(a=.d_\/a=.ptr b 0)/\nm B 5 h v w/\b<B/\B<=h.n/\(w=[]->v=.bK)
theorem Rq(n b:Nat)(h:J):Y (n+1) (.fn 91) [.ptr b 0] h=.ret (.ptr b 0) h:=by unfold Y;kernel_rfl
theorem CC(n b:Nat)(h:J)(v:I)(ad:b<h.n)(aj:h.get b=some (av [.d_,v] 115)\/h.get b=some (av [.ptr b 0,v] 115)):
  ∃ai,Y (n+2) (.fn 86) [.ptr b 0] h=.ret (.aF []) ai/\ai.get b=some (av [.ptr b 0,v] 115)/\ai.n=h.n/\∀c,c≠b->ai.get c=h.get c:=by
 rcases aj with aj|aj
 · refine⟨h.set b (some (av [.ptr b 0,v] 115)),?_,fw rfl,rfl,λc ab=>dt ab rfl⟩
   have f1:an.underlying 113=some (.pointer 115):=by kernel_rfl
   have f2:an.underlying 134=some .unsafePointer:=by kernel_rfl
   have f3:cG an 115=some 2:=by kernel_rfl
   have f4:liesAt an an.depth 115 (2/an.cellsOf 115) 0 115 1=true:=by kernel_rfl
   have v1:hQ an 113 134 (I.ptr b 0) h=h9.val (I.ptr b 0) h:=by
    simp only[hQ,f1,f2,f3,aj];rfl
   have v2:hQ an 134 113 (I.ptr b 0) h=h9.val (I.ptr b 0) h:=by
    simp only[hQ,f1,f2,f3,aj,List.length_cons,List.length_nil,f4];rfl
   have ah:=Rg (Y (n+1)) b h _ (ld1 aj rfl) v1 (Rq n b h) v2 (iM aj rfl rfl)
   exact hZ (intr:=fK) (n:=n+1) (args:=[.ptr b 0]) Tryd.func86 ah (.inr rfl) (by kernel_rfl)
 · refine⟨h,?_,aj,rfl,λc _=>rfl⟩
   have he:eo an h BinOp.neq 113 (Operand.tmp 17) (Operand.tmp 18) (I.ptr b 0) (I.ptr b 0)=some (I.bool false):=by
    have aw:an.underlying 113=some (.pointer 115):=by kernel_rfl
    have ar:cG an 115=some 2:=by kernel_rfl
    have bn:Nat.beq b b=true:=by simp
    simp only[eo,oz,gG,aw,ar,ze,bn]
    rfl
   exact hZ (intr:=fK) (n:=n+1) (args:=[.ptr b 0]) Tryd.func86 (Rh (Y (n+1)) b h false (ld1 aj rfl) he rfl) (.inr rfl) (by kernel_rfl)
theorem CD:∃i,an.info? 5=some i/\i.size=1/\i.bytes=1:=by
 have ag:(an.info? 5).map (λi=>(i.size,i.bytes))=some (1,1):=by kernel_rfl
 cases j6:an.info? 5 with
 |none=>rw[j6] at ag;cases ag
 |some i=>
  rw[j6] at ag
  simp only[Option.map_some,Option.some.injEq,Prod.mk.injEq] at ag
  exact⟨i,rfl,ag.1,ag.2⟩
theorem Is{i:TypeInfo}(ag:i.bytes=1){n:Nat}(aB:n<=1000000000):iD n i.bytes=true:=by
 rw[ag]
 have:(4*n+2048)*(1+1)<=281474976710656:=by omega
 simpa[iD] using this
theorem It(n b B:Nat)(h:J)(w s:List UInt8)(ad:v_ B b h w)(aq:w.length+s.length<=1000000000):∃ai,Y (n+3) (.fn 76) [.ptr b 0,.str s] h=.ret (.aF [ak s.length,.dY]) ai/\v_ B b ai (w++s)/\k7 b B h ai:=by
 obtain⟨a,v,aj,aH,CE,tt,Rr,qG⟩:=ad
 obtain⟨h1,c1,g1,aY,dp⟩:=CC n b h v (by omega) (by rcases aH with rfl|rfl;exact .inl aj;exact .inr aj)
 have cC:nm B 5 h1 v w:=CE.ext (by omega) λc ab _=>dp c (by omega)
 obtain⟨i,j6,tu,n4⟩:=CD
 obtain⟨v',aa,bl,a2,a3⟩:=FT (P:=an) (B:=B) (sT:=56) (xT:=some 9) (e:=5) (z:=iy 0) (by omega) (by kernel_rfl) (by kernel_rfl) j6 tu (by kernel_rfl) rfl (Is n4 aq) cC
 have g2:=(a3.get b tt).trans g1
 have aB:=a3.n
 have rW:w++s=[]->v'=.bK:=by
  intro e
  obtain⟨rfl,rfl⟩:=List.append_eq_nil_iff.1 e
  obtain rfl:=qG rfl
  have:eA an h1 56 (some 9) .bK (.str [])=some (.bK,h1):=by
   have hu:an.underlying 56=some (.slice 5):=by kernel_rfl
   have ae:l_ an (some 9)=true:=by kernel_rfl
   have aL:dV an 5=some (iy 0):=by kernel_rfl
   simp only[eA,hu,ae,j6,aL,tu];rfl
  rw[this] at bl
  cases bl;rfl
 refine⟨aa.set b (some (av [.ptr b 0,v'] 115)),?_,⟨.ptr b 0,v',fw rfl,.inr rfl,a2.ext (by simp) λc ab _=>dt (by omega) rfl,tt,by simp;omega,rW⟩,⟨by simp;omega,λc ab iH=>dt iH ((a3.get c ab).trans (dp c iH))⟩⟩
 rcases a2 with⟨rfl,_⟩|⟨c,r,rfl,_⟩
 · exact hZ (intr:=fK) (n:=n+2) (args:=[.ptr b 0,.str s]) Tryd.func76 (Ir (Y (n+2)) b s v h aa h1 _ c1 (ld1 g1 rfl) bl (iM g2 rfl rfl)) (.inl rfl) (by kernel_rfl)
 · exact hZ (intr:=fK) (n:=n+2) (args:=[.ptr b 0,.str s]) Tryd.func76 (bws (Y (n+2)) b c _ s v h aa h1 _ c1 (ld1 g1 rfl) bl (iM g2 rfl rfl)) (.inl rfl) (by kernel_rfl)
theorem Rs(n b B:Nat)(h:J)(w:List UInt8)(ad:v_ B b h w)(aq:w.length<=1000000000):∃ai,Y (n+1) (.fn 77) [.ptr b 0] h=.ret (.str w) ai/\Ext B h ai:=by
 obtain⟨a,v,g,aH,aI,tt,aB,qG⟩:=ad
 rcases aI with⟨rfl,rfl⟩|⟨c,rest,rfl,ab,vj,ve⟩
 · have kg:nJ an (J.room h 12) 130 I.d_ (ak 0)=some (.str [],J.room h 12):=by kernel_rfl
   exact⟨_,hZ (intr:=fK) (n:=n) (args:=[.ptr b 0]) Tryd.func77 (Rj (Y n) b h [] _ (ld1 (h:=h.room 12) g rfl) kg) (.inl rfl) (by kernel_rfl),Ext.room _ _ _⟩
 · by_cases hw:w=[]
   · exact absurd (qG hw) (by simp)
   · have cj:w.length≠0:=by cases w<;>simp at hw⊢
     have BM:hd an Builtin.unsafeSliceData (Array.mk [56]) [I.slice c 0 w.length (cy.aE 1)] (J.room h 12)=h9.val (I.ptr c 0) (J.room h 12):=by
      simp only[hd]
      exact if_neg cj
     have kg:=M5 (P:=an) (h:=h.room 12) (pT:=130) (u:=5) (c:=c) (e:=5) (w:=w) (rest:=rest) hw (by omega) (by kernel_rfl) (by kernel_rfl) (by kernel_rfl) ab
     exact⟨_,hZ (intr:=fK) (n:=n) (args:=[.ptr b 0]) Tryd.func77 (Ri (Y n) b c w.length h w _ (ld1 (h:=h.room 12) g rfl) BM kg) (.inl rfl) (by kernel_rfl),
      (Ext.room B h 12).trans (Nat.le_refl _) (Ext.set (by omega) _)⟩
theorem Rt(n b B:Nat)(h:J)(v:I)(w s:List UInt8)(aj:h.get b=some (av [.ptr b 0,v] 115))(CE:nm B 5 h v w)(tt:b<B)(Rr:B<=h.n)(cj:w++s≠[])(aq:w.length+s.length<=1000000000):∃ai,Y (n+3) (.fn 76) [.ptr b 0,.str s] h=.ret (.aF [ak s.length,.dY]) ai/\v_ B b ai (w++s)/\k7 b B h ai:=by
 obtain⟨h1,c1,g1,aY,dp⟩:=CC n b h v (by omega) (.inr aj)
 have cC:nm B 5 h1 v w:=CE.ext (by omega) λc ab _=>dp c (by omega)
 obtain⟨i,j6,tu,n4⟩:=CD
 obtain⟨v',aa,bl,a2,a3⟩:=FT (P:=an) (B:=B) (sT:=56) (xT:=some 9) (e:=5) (z:=iy 0) (by omega) (by kernel_rfl) (by kernel_rfl) j6 tu (by kernel_rfl) rfl (Is n4 aq) cC
 have g2:=(a3.get b tt).trans g1
 have aB:=a3.n
 refine⟨aa.set b (some (av [.ptr b 0,v'] 115)),?_,⟨.ptr b 0,v',fw rfl,.inr rfl,a2.ext (by simp) λc ab _=>dt (by omega) rfl,tt,by simp;omega,λe=>absurd e cj⟩,⟨by simp;omega,λc ab iH=>dt iH ((a3.get c ab).trans (dp c iH))⟩⟩
 rcases a2 with⟨rfl,_⟩|⟨c,r,rfl,_⟩
 · exact hZ (intr:=fK) (n:=n+2) (args:=[.ptr b 0,.str s]) Tryd.func76 (Ir (Y (n+2)) b s v h aa h1 _ c1 (ld1 g1 rfl) bl (iM g2 rfl rfl)) (.inl rfl) (by kernel_rfl)
 · exact hZ (intr:=fK) (n:=n+2) (args:=[.ptr b 0,.str s]) Tryd.func76 (bws (Y (n+2)) b c _ s v h aa h1 _ c1 (ld1 g1 rfl) bl (iM g2 rfl rfl)) (.inl rfl) (by kernel_rfl)
theorem Ru(n m:Nat)(h:J)(hm:m<=1000000000):Y (n+1) (.fn 92) [ak m] h=.ret (.slice h.n 0 m (.aE 1)) (h.push (.cells (List.replicate m .bad) 5 .aE 0 0)):=by
 have hle:Nat.ble m 1099511627776=true:=by simp;omega
 have aw:(Tryd.f92).resultTypes[0]? =some 56:=by kernel_rfl
 have ar:an.underlying 56=some (.slice 5):=by kernel_rfl
 have bn:(Tryd.f92).body=none:=by kernel_rfl
 have cR:(Tryd.f92).name= "internal/bytealg.MakeNoZero" :=by kernel_rfl
 have fD:fK 92 [ak m] h=none:=rfl
 have dM:r6 an Tryd.f92 "internal/bytealg.MakeNoZero" [ak m] h=some (.slice h.n 0 m (.aE 1),h.push (.cells (List.replicate m .bad) 5 .aE 0 0)):=by
  simp only[r6,aw,ar,hle];rfl
 show cu an fK (n+1) _ _ _=_
 simp only[cu,fD,oD,Tryd.func92,bn,cR,dM]
theorem Rv(n b m:Nat)(h:J)(ad:b<h.n)(aj:h.get b=some (av [.d_,.bK] 115))(ay:0<m)(hm:m<=1000000000):∃g c,Y (n+3) (.fn 75) [.ptr b 0,ak m] h=.ret (.aF []) g/\g.get b=some (av [.ptr b 0,.slice c 0 0 (.aE 1)] 115)/\nm h.n 5 g (.slice c 0 0 (.aE 1)) []/\k7 b h.n h g:=by
 obtain⟨h1,c1,g1,aY,dp⟩:=CC n b h .bK ad (.inl aj)
 obtain⟨H,hH⟩:∃H,H=(h1.room 13).room 16:=⟨_,rfl⟩
 have wa:H.n=h1.n+29:=by rw[hH];simp
 have pZ:H.get b=some (av [.ptr b 0,.bK] 115):=by rw[hH];exact g1
 obtain⟨ch,wb⟩:∃ch,ch=H.push (.cells (List.replicate m .bad) 5 .aE 0 0):=⟨_,rfl⟩
 have CF:ch.get b=some (av [.ptr b 0,.bK] 115):=by rw[wb];exact b8 (by omega) pZ
 have Iu:=Ru n (0+m) H (by omega)
 obtain⟨c6,wc⟩:∃c6,c6=ch.set b (some (av [.ptr b 0,.slice H.n 0 0 (.aE 1)] 115)):=⟨_,rfl⟩
 have jn:gp an ch 56 (.slice H.n 0 (0+m) (.aE 1)) none (some (ak 0)) none=some (.slice H.n 0 0 (.aE 1)):=Rp (E:=5) (by kernel_rfl) (by kernel_rfl) (Nat.zero_le _)
 have Rw:r2 an ch 56 (.slice H.n 0 0 (.aE 1)) .bK=some (ak 0,ch):=by kernel_rfl
 have yC:Y (n+2) (.fn 87) [.ptr b 0,ak m] (h1.room 13)=.ret (.aF []) c6:=by
  rw[Nat.zero_add] at Iu jn
  refine Ro (n+1) b m (h1.room 13) (R:=λx=>x=.ret (.aF []) c6) ?_
  rw[<-hH]
  refine⟨.bK,ld1 pZ rfl,0,rfl,by omega,by omega,H.n,0,m,.aE 1,ch,?_,.bK,ld1 CF rfl,0,rfl,_,jn,rfl,rfl,ld1 pZ rfl,rfl,rfl,.bK,ld1 CF rfl,0,ch,Rw,rfl,c6,by rw[wc];exact iM CF rfl rfl,rfl⟩
  rw[show 2*0+m=m by omega,wb];exact Iu
 have cX:c6.n=H.n+1:=by rw[wc,wb];rfl
 refine⟨c6,H.n,Rn (n+2) b m h (R:=λx=>x=.ret (.aF []) c6) ⟨h1,c1,by omega,.bK,ld1 (h:=h1.room 13) g1 rfl,0,rfl,.bK,ld1 (h:=h1.room 13) g1 rfl,0,rfl,by omega,rfl,rfl,by omega,c6,yC,rfl⟩,by rw[wc];exact fw rfl,.inr ⟨H.n,List.replicate m .bad,rfl,?_,by omega,by omega⟩,⟨by omega,λc ab iH=>?_⟩⟩
 · rw[wc]
   refine dt (by omega) ?_
   rw[wb];exact cT rfl
 · rw[wc]
   refine dt iH ?_
   rw[wb]
   refine b8 (by omega) ?_
   rw[hH];exact dp c iH
theorem Rx{P:Program}{h:J}{T E b n:Nat}(hu:P.underlying T=some (.slice E))(ae:cG P E=some 1)(h1:1<n):gp P h T (.slice b 0 n (.aE 1)) (some (ak 1)) none none=some (.slice b (0+1*1) (n-1) (.aE 1)):=by
 have cC:Nat.ble n n=true:=by rw[Nat.ble_eq];omega
 have cE:Nat.ble 1 n=true:=by rw[Nat.ble_eq];omega
 have gr:Nat.blt 1 n=true:=by rw[Nat.blt_eq];omega
 simp only[gp,hu,ae,bounds,ia,ez,cC,cE,gr,if_true]
 rw[if_neg (by decide)]
theorem Iv:∀(a b:List (List UInt8)) (x:List UInt8),h6 x (a++b)=h6 (h6 x a) b
 |[],b,x=>rfl
 |y::a,b,x=>Iv a b _
theorem Ry{xs:List (List UInt8)}{x:List UInt8}{j:Nat}(aG:j<xs.length):h6 x (xs.take (j+1))=h6 x (xs.take j)++[47]++xs[j]:=by
 rw[List.take_succ_eq_append_getElem aG,Iv]
 rfl
theorem Iw(N:Nat):∀(l:List (List UInt8)) (x:List UInt8),(∀y∈l,y.length<=N)->(h6 x l).length<=x.length+(N+1)*l.length
 |[],x,_=>by simp[h6]
 |y::l,x,h=>by
  have h1:=Iw N l (x++[47]++y) λz aL=>h z (by simp[aL])
  have aa:=h y (by simp)
  rw[h6,List.length_cons,Nat.mul_add]
  simp only[List.length_append,List.length_cons,List.length_nil] at h1
  omega
theorem Rz(m:Nat)(x:List UInt8)(xs:List (List UInt8))(eV:Nat)(rest:List I)(k:e3)(bF up ty:Nat)(h:J)(aI:h.get eV=some (.cells ((x::xs).map .str++rest) ty k bF up))(RA:eV<h.n)(hlen:(x::xs).length<=1000)(m_:∀y∈x::xs,y.length<=50000)(U:x≠[]):
  ∃g,Y (m+4) (.fn 60) [.slice eV 0 (x::xs).length (.aE 1),.str [47]] h=.ret (.str (h6 x xs)) g/\Ext h.n h g:=by
 obtain⟨eP,ja⟩:∃eP,eP=x::xs:=⟨_,rfl⟩
 have uj:eP.length=xs.length+1:=by rw[ja];rfl
 rw[<-ja] at aI hlen m_⊢
 have aM:0<eP.length:=by omega
 have jX:∀{y},Ext h.n h y->∀i (ag:i<eP.length),aO y eV (0+i*1)=some (.str eP[i]):=λe i ag=>aU.Bh e RA (QU aI ag)
 have dg:eP[0]=x:=by simp[ja]
 have es:∀i (ag:i<xs.length),eP[i+1]'(by omega)=xs[i]:=λi ag=>by simp[ja]
 have pH:∀i,(h6 x (xs.take i)).length<=50000+50001*1000:=λi=>by
  have h1:=Iw 50000 (xs.take i) x λy bc=>m_ y (by rw[ja];exact List.mem_cons_of_mem _ (List.take_subset _ _ bc))
  have aa:=m_ x (by simp[ja])
  have ao:(xs.take i).length<=1000:=by rw[List.length_take];omega
  have bA:=Nat.mul_le_mul_left 50001 ao
  omega
 refine Rk (m+3) eV 0 eP.length (.aE 1) h (R:=λy=>∃g,y=.ret (.str (h6 x xs)) g/\Ext h.n h g) ⟨by omega,λaY=>?_,λaY=>⟨λ_=>?_,λh=>absurd (by omega) h⟩⟩
 · refine⟨aM,_,jX (Ext.refl _ _) 0 aM,h,?_,Ext.refl _ _⟩
   obtain rfl:xs=[]:=List.eq_nil_of_length_eq_zero (by omega)
   rw[dg];rfl
 have bj:∃q,arith .quo .i64 (Int.ofNat 9223372036854775807) (Int.ofNat (eP.length-1))=some (ak q)/\¬q<=1:=by
  refine⟨9223372036854775807/(eP.length-1),?_,?_⟩
  · have h1:¬Int.ofNat (eP.length-1)=0:=λh=>by have aa:((eP.length-1:Nat):Int)=0:=h;omega
    have aa:9223372036854775807/(eP.length-1)<9223372036854775808:=Nat.lt_of_le_of_lt (Nat.div_le_self _ _) (by omega)
    simp only[arith]
    rw[if_neg h1]
    have ao:(Int.ofNat 9223372036854775807).tdiv (Int.ofNat (eP.length-1))=((9223372036854775807/(eP.length-1):Nat):Int):=rfl
    rw[ao,nR _ aa]
    rfl
  · have:2<=9223372036854775807/(eP.length-1):=(Nat.le_div_iff_mul_le (by omega)).2 (by omega)
    omega
 obtain⟨q,aK,a_⟩:=bj
 refine⟨⟨by omega,by omega⟩,q,aK,a_,⟨by omega,by omega⟩,by omega,by omega,?_⟩
 refine q9 (λk st=>∃i n Γ,st=lg Γ h/\eu [(0,.slice eV 0 eP.length (.aE 1)),(1,.str [47]),(5,ak n),(39,.slice eV 0 eP.length (.aE 1)),(40,ak eP.length),(41,ak i)] Γ/\eP.length-i=k/\i<=eP.length/\0<n/\n<=1000+50000*i) ?_ eP.length _ (by omega) ⟨0,_,_,rfl,⟨rfl,rfl,rfl,rfl,rfl,rfl,trivial⟩,by omega,by omega,by omega,by omega⟩
 rintro k st ⟨i,n,Γ,rfl,gA,hk,ag,ug,Us⟩
 refine iN (Rl (Y (m+3)) eV 0 _ i n (.aE 1) h ⟨λi1=>?_,λi1=>?_⟩) gA
 · have e:=m_ _ (List.getElem_mem i1)
   exact⟨i1,_,jX (Ext.refl _ _) i i1,⟨by omega,by omega⟩,by omega,by omega,by omega,_,(by show _<k;omega),i+1,_,_,rfl,⟨rfl,rfl,rfl,rfl,rfl,rfl,trivial⟩,rfl,by omega,by omega,by omega⟩
 · obtain⟨H,hH⟩:∃H,H=h.push (av [.d_,.bK] 115):=⟨_,rfl⟩
   have wa:H.n=h.n+1:=by rw[hH];rfl
   have hb:Ext h.n h H:=by rw[hH];exact Ext.push (Nat.le_refl _) _
   obtain⟨g,c,c1,w_,RB,mR⟩:=Rv m h.n n H (by omega) (by rw[hH];exact cT rfl) ug (by omega)
   have pJ:=mR.n
   have y1:∀{x},k7 h.n H.n H x->Ext h.n h x:=λe=>⟨by have:=e.n;omega,λd al=>(e.get d (by omega) (by omega)).trans (hb.get d al)⟩
   have bW:=pH 0
   rw[List.take_zero,h6] at bW
   obtain⟨g3,c3,rX,gk⟩:=Rt m h.n H.n g (.slice c 0 0 (.aE 1)) [] x w_ RB (by omega) pJ (by simpa using U) (by simp;omega)
   rw[List.nil_append] at rX
   have RC:k7 h.n H.n H g3:=mR.trans (Nat.le_refl _) gk
   have d1:=Rx (P:=an) (h:=g3) (T:=35) (E:=9) (b:=eV) (n:=eP.length) (by kernel_rfl) (by kernel_rfl) (by omega)
   subst hH
   refine⟨n,h,_,rfl,rfl,⟨rfl,rfl,rfl,trivial⟩,g,c1,aM,x,by rw[<-dg];exact jX (y1 mR) 0 aM,_,_,g3,c3,eV,_,eP.length-1,.aE 1,d1,?_⟩
   refine q9 (λk st=>∃i y Γ,st=lg Γ y/\eu [(1,.str [47]),(8,.ptr h.n 0),(63,.slice eV (0+1*1) (eP.length-1) (.aE 1)),(64,ak (eP.length-1)),(65,ak i)] Γ/\eP.length-1-i=k/\i<=eP.length-1/\v_ (h.n+1) h.n y (h6 x (xs.take i))/\k7 h.n (h.n+1) (h.push (av [.d_,.bK] 115)) y) ?_ (eP.length-1) _ (by omega) ⟨0,g3,_,rfl,⟨rfl,rfl,rfl,rfl,rfl,trivial⟩,by omega,by omega,rX,RC⟩
   rintro gn st ⟨j,y,cg,rfl,RD,eh,aG,Ix,bc⟩
   refine iN (Rm (Y (m+3)) h.n eV _ _ j (.aE 1) y ⟨λdj=>?_,λdj=>?_⟩) RD
   · have Iy:j<xs.length:=by omega
     have dx:=pH j
     have l2:=pH (j+1)
     have ar:=Ry (x:=x) Iy
     rw[ar] at l2
     simp only[List.length_append,List.length_cons,List.length_nil] at l2
     obtain⟨ir,cK,RE,bz⟩:=It m h.n (h.n+1) y _ [47] Ix (by simp;omega)
     obtain⟨eS,cf,CG,bZ⟩:=It m h.n (h.n+1) ir _ xs[j] RE (by simp;omega)
     refine⟨dj,xs[j],?_,_,_,ir,cK,_,_,eS,cf,by omega,_,(by show _<gn;omega),j+1,eS,_,rfl,⟨rfl,rfl,rfl,rfl,rfl,trivial⟩,rfl,by omega,?_,(bc.trans (Nat.le_refl _) bz).trans (Nat.le_refl _) bZ⟩
     · rw[show 0+1*1+j*1=0+(j+1)*1 by omega,<-es j Iy]
       exact jX (y1 bc) (j+1) (by omega)
     · rw[ar];exact CG
   · obtain rfl:j=eP.length-1:=by omega
     have dx:=pH (eP.length-1)
     obtain⟨g5,nB,fV⟩:=Rs (m+2) h.n (h.n+1) y _ Ix (by omega)
     rw[List.take_of_length_le (by omega)] at nB
     exact⟨h.n,y,_,rfl,rfl,⟨rfl,trivial⟩,h6 x xs,g5,nB,g5,rfl,⟨by have:=fV.n;have:=(y1 bc).n;omega,λd al=>(fV.get d (by omega)).trans ((y1 bc).get d al)⟩⟩
theorem RF(s:List UInt8)(h:J):
  br an Tryd.f45 none call [0] (aQ.mk [(0,I.str s)] [] aJ.none h) (bh.nrm)
   (aQ.mk [(0,I.str s),(2,I.ptr (J.n h) 0),(3,I.ptr (J.n (J.push h (b2.cells [I.str []] 9 e3.own 0 0))) 0)] [] aJ.none (J.push (J.push h (b2.cells [I.str []] 9 e3.own 0 0)) (b2.cells [ak 0] 34 e3.own 0 0))):=
 cO [0,2,3] [] 16 0 0 cN
theorem RG(s:List UInt8)(h:J)(a b:Nat):
  br an Tryd.f45 none call [1,0] (aQ.mk [(0,I.str s),(2,I.ptr a 0),(3,I.ptr b 0)] [] aJ.none h) (bh.nrm)
   (aQ.mk [(0,I.str s),(2,I.ptr a 0),(3,I.ptr b 0)] [bo.call 56 [I.ptr a 0,I.ptr b 0]] aJ.none h):=
 cO [0,2,3] [] 16 0 0 cN
theorem RH(s:List UInt8)(h:J)(d:List bo)(a b:Nat):
  br an Tryd.f45 none call [1,1,0] (aQ.mk [(0,I.str s),(2,I.ptr a 0),(3,I.ptr b 0)] d aJ.none h) (bh.nrm)
   (aQ.mk [(0,I.str s),(2,I.ptr a 0),(3,I.ptr b 0),(4,I.ptr (J.n h) 0)] d aJ.none (J.push h (b2.cells [I.bK] 35 e3.own 0 0))):=
 cO [0,2,3,4] [] 16 0 0 cN
theorem RI(s:List UInt8)(v:I)(h:J)(ai:J)(d:List bo)(a b c:Nat)
  (H1:call (cM.fn 57) [I.str s,I.str [47]] h=bL.ret v ai):
  br an Tryd.f45 none call [1,1,1,0,0] (aQ.mk [(0,I.str s),(2,I.ptr a 0),(3,I.ptr b 0),(4,I.ptr c 0)] d aJ.none h) (bh.nrm)
   (aQ.mk [(2,I.ptr a 0),(3,I.ptr b 0),(4,I.ptr c 0),(8,v)] d aJ.none ai):=
 cO [2,3,4,8] [Hint.c v ai] 16 1 2 (k8 H1 cN)
theorem RJ(l c:Nat)(p:List UInt8)(h:J):
  br an Tryd.f45 (some l) call [1,1,1,0,1,0,0] (aQ.mk [(9,I.str p),(4,I.ptr c 0)] [] aJ.none h) (bh.nrm)
   (aQ.mk [(4,I.ptr c 0),(5,I.str p)] [] aJ.none h):=
 cO [4,5] [] 16 0 0 cN
theorem RK(l c:Nat)(h:J):
  br an Tryd.f45 (some l) call [1,1,1,0,1,0,1] (aQ.mk [(5,I.str []),(4,I.ptr c 0)] [] aJ.none h) (bh.nrm)
   (aQ.mk [(4,I.ptr c 0)] [] aJ.none h):=
 cO [4] (iv 2 3 []) 16 2 34 (k8 (by kernel_rfl:cW [] []=true) cN)
theorem RL(l c:Nat)(h:J):
  br an Tryd.f45 (some l) call [1,1,1,0,1,0,1] (aQ.mk [(5,I.str [46]),(4,I.ptr c 0)] [] aJ.none h) (bh.nrm)
   (aQ.mk [(4,I.ptr c 0)] [] aJ.none h):=
 cO [4] (iv 2 1 []) 16 2 35 (q7 (by kernel_rfl:cW [46] []=false) (by kernel_rfl:cW [46] [46]=true) cN)
theorem RM(l c:Nat)(h:J)
  (H1:aO h c 0=some I.bK)
  (ch:call (cM.fn 58) [I.bool (lf 0 0)] h=bL.bm (I.iface 91 (I.agg [])) h):
  br an Tryd.f45 (some l) call [1,1,1,0,1,0,1] (aQ.mk [(5,I.str [46,46]),(4,I.ptr c 0)] [] aJ.none h) (bh.bm (I.iface 91 (I.agg [])))
   (aQ.mk [(4,I.ptr c 0)] [] aJ.none h):=
 cO [4] (iv 3 1 [Hint.v I.bK,Hint.p (I.iface 91 (I.agg [])) h]) 16 5 144470 (sW (by kernel_rfl:cW [46,46] []=false) (by kernel_rfl:cW [46,46] [46]=false) (by kernel_rfl:cW [46,46] [46,46]=true) H1 ch cN)
theorem RN(l c b n:Nat)(h:J)
  (H1:aO h c 0=some (I.slice b 0 n (cy.aE 1)))
  (ch:call (cM.fn 58) [I.bool (lf 0 n)] h=bL.bm (I.iface 91 (I.agg [])) h):
  br an Tryd.f45 (some l) call [1,1,1,0,1,0,1] (aQ.mk [(5,I.str [46,46]),(4,I.ptr c 0)] [] aJ.none h) (bh.bm (I.iface 91 (I.agg [])))
   (aQ.mk [(4,I.ptr c 0)] [] aJ.none h):=
 cO [4] (iv 3 1 [Hint.v (I.slice b 0 n (cy.aE 1)),Hint.p (I.iface 91 (I.agg [])) h]) 16 5 144470 (sW (by kernel_rfl:cW [46,46] []=false) (by kernel_rfl:cW [46,46] [46]=false) (by kernel_rfl:cW [46,46] [46,46]=true) H1 ch cN)
theorem RO(l c b n m:Nat)(h ew:J)
  (H1:aO h c 0=some (I.slice b 0 n (cy.aE 1)))
  (ch:call (cM.fn 58) [I.bool (lf 0 n)] h=bL.ret (I.aF []) h)
  (c6:arith BinOp.sub IntKind.i64 (Int.ofNat n) (Int.ofNat 1)=some (ak m))
  (hJ:gp an h 35 (I.slice b 0 n (cy.aE 1)) none (some (ak m)) none=some (I.slice b 0 m (cy.aE 1)))
  (rV:aU.storeCells h c 0 [I.slice b 0 m (cy.aE 1)]=some ew):
  br an Tryd.f45 (some l) call [1,1,1,0,1,0,1] (aQ.mk [(5,I.str [46,46]),(4,I.ptr c 0)] [] aJ.none h) (bh.nrm)
   (aQ.mk [(4,I.ptr c 0)] [] aJ.none ew):=
 cO [4] (iv 3 1 [Hint.v (I.slice b 0 n (cy.aE 1)),Hint.c (I.aF []) h,Hint.v (I.slice b 0 n (cy.aE 1)),Hint.v (I.slice b 0 n (cy.aE 1)),Hint.v (ak m),Hint.v (I.slice b 0 m (cy.aE 1)),Hint.hE (I.aF []) ew]) 16 10 151488124809 (Bk (by kernel_rfl:cW [46,46] []=false) (by kernel_rfl:cW [46,46] [46]=false) (by kernel_rfl:cW [46,46] [46,46]=true) H1 ch c6 hJ (⟨by kernel_rfl,rV,rfl⟩:some 1=some 1/\aU.storeCells h c 0 [I.slice b 0 m (cy.aE 1)]=some ew/\I.aF []=I.aF []) cN)
theorem RP(l c:Nat)(p:List UInt8)(h:J)
  (H1:cW p []=false)
  (ch:cW p [46]=false)
  (c6:cW p [46,46]=false)
  (hJ:call (cM.fn 59) [I.str p] h=bL.ret (I.bool false) h)
  (rV:call (cM.fn 58) [I.bool false] h=bL.bm (I.iface 91 (I.agg [])) h):
  br an Tryd.f45 (some l) call [1,1,1,0,1,0,1] (aQ.mk [(5,I.str p),(4,I.ptr c 0)] [] aJ.none h) (bh.bm (I.iface 91 (I.agg [])))
   (aQ.mk [(4,I.ptr c 0)] [] aJ.none h):=
 cO [4] (iv 3 0 [Hint.c (I.bool false) h,Hint.p (I.iface 91 (I.agg [])) h]) 16 5 144470 (sW H1 ch c6 hJ rV cN)
theorem RQ(l c b m:Nat)(v:I)(p:List UInt8)(h h1 aa:J)
  (H1:cW p []=false)
  (ch:cW p [46]=false)
  (c6:cW p [46,46]=false)
  (hJ:call (cM.fn 59) [I.str p] h=bL.ret (I.bool true) h)
  (rV:call (cM.fn 58) [I.bool true] h=bL.ret (I.aF []) h)
  (RR:aO h c 0=some v)
  (RS:eA an (J.push h (b2.cells [I.str p] 9 e3.own 0 0)) 35 (some 35) v (I.slice (J.n h) 0 1 (cy.exact 1))=some (I.slice b 0 m (cy.aE 1),h1))
  (RT:aU.storeCells h1 c 0 [I.slice b 0 m (cy.aE 1)]=some aa):
  br an Tryd.f45 (some l) call [1,1,1,0,1,0,1] (aQ.mk [(5,I.str p),(4,I.ptr c 0)] [] aJ.none h) (bh.nrm)
   (aQ.mk [(4,I.ptr c 0)] [] aJ.none aa):=
 cO [4] (iv 3 0 [Hint.c (I.bool true) h,Hint.c (I.aF []) h,Hint.v v,Hint.hE (I.slice b 0 m (cy.aE 1)) h1,Hint.hE (I.aF []) aa]) 16 8 591751049 (Bk H1 ch c6 hJ rV RR RS (⟨by kernel_rfl,RT,rfl⟩:some 1=some 1/\aU.storeCells h1 c 0 [I.slice b 0 m (cy.aE 1)]=some aa/\I.aF []=I.aF []) cN)
theorem RU(a a2 c:Nat)(d:List bo)(h:J)
  (H1:aO h c 0=some I.bK)
  (ch:call (cM.fn 58) [I.bool false] h=bL.bm (I.iface 91 (I.agg [])) h):
  br an Tryd.f45 none call [1,1,1,1,0] (aQ.mk [(2,I.ptr a 0),(3,I.ptr a2 0),(4,I.ptr c 0)] d aJ.none h) (bh.bm (I.iface 91 (I.agg [])))
   (aQ.mk [(2,I.ptr a 0),(3,I.ptr a2 0)] d aJ.none h):=
 cO [2,3] (Hint.v I.bK::iv 4 0 [Hint.p (I.iface 91 (I.agg [])) h]) 16 6 2306868 (q8 H1 (by kernel_rfl:lf 0 0=false) ch cN)
theorem RV(a a2 c b n:Nat)(d:List bo)(h:J)
  (H1:aO h c 0=some (I.slice b 0 n (cy.aE 1)))
  (ch:lf 0 n=true)
  (c6:call (cM.fn 58) [I.bool (BT n 8)] h=bL.bm (I.iface 91 (I.agg [])) h):
  br an Tryd.f45 none call [1,1,1,1,0] (aQ.mk [(2,I.ptr a 0),(3,I.ptr a2 0),(4,I.ptr c 0)] d aJ.none h) (bh.bm (I.iface 91 (I.agg [])))
   (aQ.mk [(2,I.ptr a 0),(3,I.ptr a2 0)] d aJ.none h):=
 cO [2,3] (Hint.v (I.slice b 0 n (cy.aE 1))::Hint.b true::Hint.v (I.slice b 0 n (cy.aE 1))::iv 3 7 [Hint.p (I.iface 91 (I.agg [])) h]) 16 7 36844340 (q8 H1 ch c6 cN)
theorem RW(a a2 c b n:Nat)(d:List bo)(h:J)
  (H1:aO h c 0=some (I.slice b 0 n (cy.aE 1)))
  (ch:lf 0 n=false)
  (c6:call (cM.fn 58) [I.bool false] h=bL.bm (I.iface 91 (I.agg [])) h):
  br an Tryd.f45 none call [1,1,1,1,0] (aQ.mk [(2,I.ptr a 0),(3,I.ptr a2 0),(4,I.ptr c 0)] d aJ.none h) (bh.bm (I.iface 91 (I.agg [])))
   (aQ.mk [(2,I.ptr a 0),(3,I.ptr a2 0)] d aJ.none h):=
 cO [2,3] (Hint.v (I.slice b 0 n (cy.aE 1))::iv 4 0 [Hint.p (I.iface 91 (I.agg [])) h]) 16 6 2306868 (q8 H1 ch c6 cN)
theorem RX(a a2 c b n:Nat)(d:List bo)(h:J)
  (H1:aO h c 0=some (I.slice b 0 n (cy.aE 1)))
  (ch:lf 0 n=true)
  (c6:call (cM.fn 58) [I.bool (BT n 8)] h=bL.ret (I.aF []) h):
  br an Tryd.f45 none call [1,1,1,1,0] (aQ.mk [(2,I.ptr a 0),(3,I.ptr a2 0),(4,I.ptr c 0)] d aJ.none h) (bh.nrm)
   (aQ.mk [(2,I.ptr a 0),(3,I.ptr a2 0),(4,I.ptr c 0)] d aJ.none h):=
 cO [2,3,4] (Hint.v (I.slice b 0 n (cy.aE 1))::Hint.b true::Hint.v (I.slice b 0 n (cy.aE 1))::iv 3 7 [Hint.c (I.aF []) h]) 16 7 36844340 (q8 H1 ch c6 cN)
theorem RY(a a2 c b n:Nat)(d:List bo)(h:J)(jH:List UInt8)(ew h7 y2:J)
  (H1:aO h c 0=some (I.slice b 0 n (cy.aE 1)))
  (ch:call (cM.fn 60) [I.slice b 0 n (cy.aE 1),I.str [47]] h=bL.ret (I.str jH) ew)
  (c6:aU.storeCells ew a 0 [I.str jH]=some h7)
  (hJ:aU.storeCells h7 a2 0 [ak 0]=some y2):
  br an Tryd.f45 none call [1,1,1,1,1] (aQ.mk [(2,I.ptr a 0),(3,I.ptr a2 0),(4,I.ptr c 0)] d aJ.none h) (bh.ret)
   (aQ.mk [(2,I.ptr a 0),(3,I.ptr a2 0)] d aJ.none y2):=
 cO [2,3] [Hint.v (I.slice b 0 n (cy.aE 1)),Hint.c (I.str jH) ew,Hint.hE (I.aF []) h7,Hint.hE (I.aF []) y2] 16 4 9029 (lX H1 ch (⟨by kernel_rfl,c6,rfl⟩:some 1=some 1/\aU.storeCells ew a 0 [I.str jH]=some h7/\I.aF []=I.aF []) (⟨by kernel_rfl,hJ,rfl⟩:some 1=some 1/\aU.storeCells h7 a2 0 [ak 0]=some y2/\I.aF []=I.aF []) cN)
theorem RZ(a b:Nat)(h:J):
  br an Tryd.f56 none call [] (aQ.mk [(0,I.ptr a 0),(1,I.ptr b 0)] [] aJ.none h) (bh.nrm)
   (aQ.mk [] [] aJ.none h):=
 cO [] [Hint.v (I.bool !true),Hint.b false] 16 2 35 (q7 (by kernel_rfl:eo an h BinOp.neq 20 (Operand.tmp 4) (Operand.const Value.nilIface) I.dY I.dY=some (I.bool !true)) (by kernel_rfl:(!true)=false) cN)
theorem R2(a b:Nat)(h ew h7:J)
  (H1:aU.storeCells h a 0 [I.str []]=some ew)
  (ch:aU.storeCells ew b 0 [ak 6]=some h7):
  br an Tryd.f56 none call [] (aQ.mk [(0,I.ptr a 0),(1,I.ptr b 0)] [] (aJ.act (I.iface 91 (I.agg []))) h) (bh.nrm)
   (aQ.mk [] [] (aJ.done (I.iface 91 (I.agg []))) h7):=
 cO [] [Hint.v (I.bool !false),Hint.b true,Hint.hE (I.aF []) ew,Hint.hE (I.aF []) h7] 16 4 9029 (lX (by kernel_rfl:eo an h BinOp.neq 20 (Operand.tmp 4) (Operand.const Value.nilIface) (I.iface 91 (I.agg [])) I.dY=some (I.bool !false)) (by kernel_rfl:(!false)=true) (⟨by kernel_rfl,H1,rfl⟩:some 1=some 1/\aU.storeCells h a 0 [I.str []]=some ew/\I.aF []=I.aF []) (⟨by kernel_rfl,ch,rfl⟩:some 1=some 1/\aU.storeCells ew b 0 [ak 6]=some h7/\I.aF []=I.aF []) cN)
theorem CH(n:Nat)(h:J):Y (n+1) (.fn 58) [.bool true] h=.ret (.aF []) h:=
 hZ (intr:=fK) (n:=n) (args:=[.bool true]) Tryd.func58 (QI (Y n) h) (.inr rfl) (by kernel_rfl)
def j7:I:=.iface 91 (.agg [])
theorem tv(n:Nat)(h:J):Y (n+1) (.fn 58) [.bool false] h=.bm j7 h:=
 A8 (intr:=fK) (n:=n) (args:=[.bool false]) Tryd.func58 (by kernel_rfl) rfl (by kernel_rfl) (QH (Y n) h)
theorem _root_.aU.Row1.ext{B e:Nat}{h ai:J}{v:I}{xs:List I}(ah:aU.Row1 B e h v xs)(aB:h.n<=ai.n)(aj:∀c,B<=c->c<h.n->ai.get c=h.get c):aU.Row1 B e ai v xs:=by
 rcases ah with h1|⟨c,rest,h1,aa,ao,aM,bA⟩
 · exact .inl h1
 · exact .inr ⟨c,rest,h1,(aj c ao aM).trans aa,ao,by omega,bA⟩
noncomputable def iB:Code:=sub (cS Tryd.f45) [1,1,1,0,1,0,0]
noncomputable def iS:Code:=sub (cS Tryd.f45) [1,1,1,0,1,0,1]
structure iT(N:Nat)(h x:J)(we:List UInt8)(v:I)(st:List (List UInt8)):Prop where
 mS:x.get (N+2)=some (av [v] 35)
 row:aU.Row1 (N+8) 9 x v (st.map .str)
 y3:∀y∈st,jG y=true
 CI:x.get N=some (av [.str []] 9)
 err:x.get (N+1)=some (av [ak 0] 34)
 we:x.get (N+3)=some (av [.str we] 9)
 sep:x.get (N+4)=some (av [.str [47]] 9)
 num:x.get (N+5)=some (av [ak 0] 3)
 lu:x.get (N+6)=some (.defrd (some []))
 ext:Ext N h x
 nd:N+8<=x.n
theorem iT.y4{N:Nat}{h x:J}{t:List UInt8}{v:I}{st:List (List UInt8)}(hf:iT N h x t v st)(o:Option b2):iT N h (x.set (N+7) o) t v st:=by
 obtain⟨bl,a2,a3,a4,a5,hI,pE,s7,a9,wg,y5⟩:=hf
 refine⟨?_,a2.ext (by simp) (λc ab _=>by rw[J.cv,if_neg (by omega)]),a3,?_,?_,?_,?_,?_,?_,wg.trans (Nat.le_refl _) (Ext.set (by omega) _),by simpa using y5⟩<;>(rw[J.cv,if_neg (by omega)];assumption)
theorem iT.R3{N:Nat}{h x:J}{t:List UInt8}{v:I}{st:List (List UInt8)}(hf:iT N h x t v st)(BJ:List UInt8):iT N h (x.set (N+3) (some (av [.str BJ] 9))) BJ v st:=by
 obtain⟨bl,a2,a3,a4,a5,hI,pE,s7,a9,wg,y5⟩:=hf
 refine⟨?_,a2.ext (by simp) (λc ab _=>by rw[J.cv,if_neg (by omega)]),a3,?_,?_,by rw[J.cv,if_pos rfl],?_,?_,?_,wg.trans (Nat.le_refl _) (Ext.set (by omega) _),by simpa using y5⟩<;>(rw[J.cv,if_neg (by omega)];assumption)
theorem iT.Iz{N:Nat}{h x y:J}{t:List UInt8}{v v':I}{st bp:List (List UInt8)}(hf:iT N h x t v st)(he:Ext (N+8) x y)(ah:aU.Row1 (N+8) 9 y v' (bp.map .str))(ae:∀y∈bp,jG y=true):iT N h (y.set (N+2) (some (av [v'] 35))) t v' bp:=by
 obtain⟨bl,a2,a3,a4,a5,hI,pE,s7,a9,wg,y5⟩:=hf
 have aB:=he.n
 refine⟨by rw[J.cv,if_pos rfl],ah.ext (by simp) (λc ab _=>by rw[J.cv,if_neg (by omega)]),ae,?_,?_,?_,?_,?_,?_,(wg.trans (Nat.le_add_right N 8) he).trans (Nat.le_refl _) (Ext.set (by omega) _),by simp;omega⟩<;>(rw[J.cv,if_neg (by omega),he.get _ (by omega)];assumption)
theorem R4(call:cJ)(l c ct need:Nat)(p:List UInt8){x cd:J}{r:aC}{e:bh}{Γ:Env}{q:aJ}(aB:need=bH Tryd.f45)(aj:x.get l=some (.loop .ready none need r [9] iB iS ct))(hm:aU.Mod r [(4,.ptr c 0)])
  (ad:br an Tryd.f45 (some l) call [1,1,1,0,1,0,1] ⟨[(5,.str p),(4,.ptr c 0)],[],.none,x.set l (some (.loop .busy none need r [9] iB iS ct))⟩ e ⟨Γ,[],q,cd⟩)(hk:cd.get l=some (.loop .busy none need r [9] iB iS ct)):
  lB an call l [.str p] x=Bd l e need r [9] iB iS ct cd:=by
 subst aB
 have has:dO an (bH Tryd.f45) (some l) call iB ⟨put 9 (.str p) [(4,.ptr c 0)],[],.none,x⟩ .nrm ⟨[(4,.ptr c 0),(5,.str p)],[],.none,x⟩:=
  dO.pre (st1:=⟨put 9 (.str p) [(4,.ptr c 0)],[],.none,x⟩) (RJ call l c p x) ⟨rfl,rfl,trivial⟩ rfl rfl rfl
 exact MY aj hm has (dO.pre (st1:=⟨[(4,.ptr c 0),(5,.str p)],[],.none,x.set l (some (.loop .busy none (bH Tryd.f45) r [9] iB iS ct))⟩) ad ⟨rfl,rfl,trivial⟩ rfl rfl rfl) hk
theorem IA(m:Nat){N:Nat}{h x:J}{r:aC}{t p:List UInt8}{v:I}{st:List (List UInt8)}(hf:iT N h x t v st)(Ci:x.get (N+7)=some (.loop .ready none (bH Tryd.f45) r [9] iB iS (N+6)))(hm:aU.Mod r [(4,.ptr (N+2) 0)])(aZ:p.length<=50000)(b0:st.length<=60000):
  (∃bp v' cd,Y (m+3) (.bY (N+7)) [.str p] x=.ret (.bool true) (cd.set (N+7) (some (.loop .ready none (bH Tryd.f45) r [9] iB iS (N+6))))/\iT N h cd t v' bp/\(∀rest,fold st (p::rest)=fold bp rest)/\bp.length<=st.length+1)\/
  (∃cd,Y (m+3) (.bY (N+7)) [.str p] x=.bm j7 cd/\iT N h cd t v st/\∀rest,fold st (p::rest)=none):=by
 have bc:Y (m+3) (.bY (N+7)) [.str p] x=lB an (Y (m+2)) (N+7) [.str p] x:=rfl
 have ic:=hf.y4 (some (.loop .busy none (bH Tryd.f45) r [9] iB iS (N+6)))
 have wh:(x.set (N+7) (some (.loop .busy none (bH Tryd.f45) r [9] iB iS (N+6)))).get (N+7)=some (.loop .busy none (bH Tryd.f45) r [9] iB iS (N+6)):=by rw[J.cv,if_pos rfl]
 have wi:=λ(e:bh) (Γ:Env) (q:aJ) (cd:J)=>@R4 (Y (m+2)) (N+7) (N+2) (N+6) _ p x cd r e Γ q rfl Ci hm
 generalize zT:x.set (N+7) (some (.loop .busy none (bH Tryd.f45) r [9] iB iS (N+6)))=k4 at ic wh wi
 rw[bc]
 have same:∀Γ q,br an Tryd.f45 (some (N+7)) (Y (m+2)) [1,1,1,0,1,0,1] ⟨[(5,.str p),(4,.ptr (N+2) 0)],[],.none,k4⟩ .nrm ⟨Γ,[],q,k4⟩->(∀rest,fold st (p::rest)=fold st rest)->
   (∃bp v' cd,lB an (Y (m+2)) (N+7) [.str p] x=.ret (.bool true) (cd.set (N+7) (some (.loop .ready none (bH Tryd.f45) r [9] iB iS (N+6))))/\iT N h cd t v' bp/\(∀rest,fold st (p::rest)=fold bp rest)/\bp.length<=st.length+1):=λΓ q ah ov=>
  ⟨st,v,k4,wi _ _ _ _ ah wh,ic,ov,by omega⟩
 have bm:∀Γ q,br an Tryd.f45 (some (N+7)) (Y (m+2)) [1,1,1,0,1,0,1] ⟨[(5,.str p),(4,.ptr (N+2) 0)],[],.none,k4⟩ (.bm j7) ⟨Γ,[],q,k4⟩->(∀rest,fold st (p::rest)=none)->
   (∃cd,lB an (Y (m+2)) (N+7) [.str p] x=.bm j7 cd/\iT N h cd t v st/\∀rest,fold st (p::rest)=none):=λΓ q ah ov=>
  ⟨k4,wi _ _ _ _ ah wh,ic,ov⟩
 by_cases ay:p=[]
 · subst ay
   exact .inl (same _ _ (RK _ _ _ _) λrest=>by simp[fold])
 by_cases h1:p=[46]
 · subst h1
   exact .inl (same _ _ (RL _ _ _ _) λrest=>by simp[fold])
 by_cases aa:p=[46,46]
 · subst aa
   rcases ic.row with⟨rfl,fU⟩|⟨b,rs,rfl,kZ,ju,eI,i_⟩
   · have CJ:st=[]:=by simpa using fU
     subst CJ
     exact .inr (bm _ _ (RM _ _ _ _ (jA ic.mS) (tv (m+1) _)) λrest=>by simp[fold])
   · have wj:(st.map I.str).length=st.length:=by simp
     simp only[wj] at ic bm⊢
     by_cases fU:st=[]
     · subst fU
       exact .inr (bm _ _ (RN _ _ _ b 0 _ (jA ic.mS) (tv (m+1) _)) λrest=>by simp[fold])
     · have oN:0<st.length:=by cases st<;>simp at fU⊢
       have CK:Y (m+2) (.fn 58) [.bool (eW (Int.ofNat 0) (Int.ofNat st.length))] k4=.ret (.aF []) k4:=by rw[sP oN];exact CH (m+1) _
       have zL:=q2 (y:=.slice b 0 (st.length-1) (.aE 1)) rfl ic.mS
       have ah:=RO (Y (m+2)) (N+7) (N+2) b st.length (st.length-1) k4 _ (jA ic.mS) CK (QT oN (by omega)) (QX oN) zL
       refine .inl ⟨st.dropLast,.slice b 0 (st.length-1) (.aE 1),_,wi _ _ _ _ ah (by rw[J.cv,if_neg (by omega)];exact wh),ic.Iz (Ext.refl _ _) ?_ ?_,λrest=>by simp[fold,fU],by simp;omega⟩
       · refine .inr ⟨b,.str (st.getLast fU)::rs,by simp,?_,ju,eI,by rw[List.all_cons,i_];rfl⟩
         rw[kZ]
         have:st.map I.str=st.dropLast.map I.str++[.str (st.getLast fU)]:=by
          conv=>lhs;rw[<-List.dropLast_concat_getLast fU]
          simp
         rw[this];simp
       · exactλy bc=>hf.y3 y ((List.dropLast_sublist _).subset bc)
 · have y6:=QN m p k4 aZ
   cases ae:jG p with
   |false=>
    rw[ae] at y6
    exact .inr (bm _ _ (RP _ _ _ p k4 (tr ay) (tr h1) (tr aa) y6 (tv (m+1) _)) λrest=>by simp[fold,ay,h1,aa,ae])
   |true=>
    rw[ae] at y6
    obtain⟨v',dq,aH,uE,vN⟩:=QR (B:=N+8) (x:=p) ic.nd (by simp;omega) (Im st) ic.row
    have R5:dq.get (N+2)=some (av [v] 35):=(vN.get _ (by omega)).trans ic.mS
    have R6:=(vN.get (N+7) (by omega)).trans wh
    rcases uE with⟨_,R7⟩|⟨b,rs,rfl,kZ,ju,eI,i_⟩
    · simp at R7
    · have ah:=RQ (Y (m+2)) (N+7) (N+2) b _ v p k4 dq _ (tr ay) (tr h1) (tr aa) y6 (CH (m+1) _) (jA ic.mS) aH (q2 rfl R5)
      refine .inl ⟨st++[p],_,_,wi _ _ _ _ ah (by rw[J.cv,if_neg (by omega)];exact R6),ic.Iz vN (.inr ⟨b,rs,by simp,by simpa using kZ,ju,eI,i_⟩) ?_,λrest=>by simp[fold,ay,h1,aa,ae],by simp⟩
      intro y bc
      rcases List.mem_append.1 bc with bc|bc
      · exact hf.y3 y bc
      · simp at bc;subst bc;exact ae
theorem IB:jJ an 9=some false/\jJ an 34=some false:=⟨by kernel_rfl,by kernel_rfl⟩
theorem IC(N:Nat)(x:List UInt8)(k:Nat)(r:aC)(h:J)(hm:aU.Mod r [(2,.ptr N 0),(3,.ptr (N+1) 0)])(aH:h.get N=some (av [.str x] 9))(he:h.get (N+1)=some (av [ak k] 34)):
  mh an (bH Tryd.f45) Tryd.f45 r h=some (.aF [.str x,ak k]):=by
 refine sN hm ?_
 have aw:Tryd.f45.results.toList=[.cell 2 9,.cell 3 34]:=by kernel_rfl
 have ar:Nat.testBit (bH Tryd.f45) 2=true:=by kernel_rfl
 have bn:Nat.testBit (bH Tryd.f45) 3=true:=by kernel_rfl
 have cR:cU 2 [(2,I.ptr N 0),(3,I.ptr (N+1) 0)]=some (.ptr N 0):=rfl
 have fD:cU 3 [(2,I.ptr N 0),(3,I.ptr (N+1) 0)]=some (.ptr (N+1) 0):=rfl
 simp only[jz,aw,ly,k6,ar,bn,IB.1,IB.2,cR,fD,jA aH,jA he]
theorem R8(call:cJ)(N:Nat)(h:J):r7 an Tryd.f56 none (iX an call Tryd.f56 [.ptr N 0,.ptr (N+1) 0] .none h)=some (none,h):=by
 obtain⟨r,h1,aa⟩:=RZ call N (N+1) h _ (sM [.ptr N 0,.ptr (N+1) 0])
 have ad:Tryd.f56.body=some (cS Tryd.f56):=by kernel_rfl
 have hle:Nat.ble ([.ptr N 0,.ptr (N+1) 0]:List I).length Tryd.f56.ntmps=true:=by kernel_rfl
 have eQ:mh an (bH Tryd.f56) Tryd.f56 r h=some (.aF []):=sN aa (by kernel_rfl)
 simp only[aU.sub] at h1
 simp only[iX,ad,hle,h1,r7,eQ,p_]
theorem R9(call:cJ)(N:Nat)(h:J){x:List UInt8}{k:Nat}(aH:h.get N=some (av [.str x] 9))(he:h.get (N+1)=some (av [ak k] 34)):
  ∃ai,r7 an Tryd.f56 (some j7) (iX an call Tryd.f56 [.ptr N 0,.ptr (N+1) 0] (.act j7) h)=some (none,ai)/\ai.get N=some (av [.str []] 9)/\ai.get (N+1)=some (av [ak 6] 34)/\Ext N h ai:=by
 have s1:=q2 (y:=.str []) rfl aH
 have n3:(h.set N (some (av [.str []] 9))).get (N+1)=some (av [ak k] 34):=by rw[J.cv,if_neg (by omega)];exact he
 have s2:=q2 (y:=ak 6) rfl n3
 obtain⟨r,h1,aa⟩:=R2 call N (N+1) h _ _ s1 s2 _ (sM [.ptr N 0,.ptr (N+1) 0])
 have ad:Tryd.f56.body=some (cS Tryd.f56):=by kernel_rfl
 have hle:Nat.ble ([.ptr N 0,.ptr (N+1) 0]:List I).length Tryd.f56.ntmps=true:=by kernel_rfl
 have eQ:∀h,mh an (bH Tryd.f56) Tryd.f56 r h=some (.aF []):=λh=>sN aa (by kernel_rfl)
 simp only[aU.sub] at h1
 refine⟨(h.set N (some (av [.str []] 9))).set (N+1) (some (av [ak 6] 34)),?_,?_,?_,(Ext.set (Nat.le_refl _) _).trans (Nat.le_refl _) (Ext.set (Nat.le_succ _) _)⟩
 · have eZ:cQ an (bH Tryd.f56) none call (cS Tryd.f56) (mg 0 [.ptr N 0,.ptr (N+1) 0] .leaf) [] (.act j7) h=_:=h1
   simp only[iX,ad,hle,eZ,r7,eQ,p_]
 · rw[J.cv,if_neg (by omega),J.cv,if_pos rfl]
 · rw[J.cv,if_pos rfl]
theorem R_(call:cJ)(N k:Nat)(x:List UInt8)(r:aC)(q:aJ)(h:J)(hm:aU.Mod r [(2,.ptr N 0),(3,.ptr (N+1) 0)])(al:h.get (N+6)=some (.defrd (some [])))(aH:h.get N=some (av [.str x] 9))(he:h.get (N+1)=some (av [ak k] 34)):
  lA an call Tryd.f45 (.ok .ret r [.collected (N+6),.call 56 [.ptr N 0,.ptr (N+1) 0]] q h)=.ret (.aF [.str x,ak k]) (h.set (N+6) (some (.defrd none))):=by
 have ah:=IC N x k r (h.set (N+6) (some (.defrd none))) hm (by rw[J.cv,if_neg (by omega)];exact aH) (by rw[J.cv,if_neg (by omega)];exact he)
 have xJ:=R8 call N (h.set (N+6) (some (.defrd none)))
 simp only[lA,gJ,al,List.nil_append,Tryd.func56,oC,xJ,ah]
theorem ID(call:cJ)(N k:Nat)(x:List UInt8)(r:aC)(q:aJ)(h:J)(hm:aU.Mod r [(2,.ptr N 0),(3,.ptr (N+1) 0)])(al:h.get (N+6)=some (.defrd (some [])))(aH:h.get N=some (av [.str x] 9))(he:h.get (N+1)=some (av [ak k] 34)):
  ∃ai,lA an call Tryd.f45 (.ok (.bm j7) r [.collected (N+6),.call 56 [.ptr N 0,.ptr (N+1) 0]] q h)=.ret (.aF [.str [],ak 6]) ai/\Ext N h ai:=by
 obtain⟨ai,d1,d2,d3,d4⟩:=R9 call N (h.set (N+6) (some (.defrd none))) (x:=x) (k:=k) (by rw[J.cv,if_neg (by omega)];exact aH) (by rw[J.cv,if_neg (by omega)];exact he)
 have ah:=IC N [] 6 r ai hm d2 d3
 refine⟨ai,?_,(Ext.set (by omega) _).trans (Nat.le_refl _) d4⟩
 simp only[lA,gJ,al,List.nil_append,Tryd.func56,oC,d1,ah]
theorem Sa(m:Nat)(s:List UInt8)(h:J)(ae:s.length<=50000):
  ∃ai,Y (m+8) (.fn 45) [.str s] h=.ret (match gW s with|some p=>.aF [.str p,ak 0]|none=>.aF [.str [],ak 6]) ai/\Ext h.n h ai:=by
 have Ut:=Cz s []
 let N:=h.n
 let h1:=(h.push (av [.str []] 9)).push (av [ak 0] 34)
 let aa:=h1.push (av [.bK] 35)
 let ao:=kE s aa
 have bn:Ext h.n h ao:=((((((Ext.push (Nat.le_refl _) _).trans (Nat.le_refl _) (Ext.push (by simp) _)).trans (Nat.le_refl _) (Ext.push (by simp[h1];omega) _)).trans (Nat.le_refl _) (Ext.push (by simp[aa,h1];omega) _)).trans (Nat.le_refl _) (Ext.push (by simp[aa,h1];omega) _)).trans (Nat.le_refl _) (Ext.push (by simp[aa,h1];omega) _))
 have w:WF an Tryd.f45 none (Y (m+7)) [] (λe r d q ai=>∃e0,lA an (Y (m+7)) Tryd.f45 (.ok e r d q ai)=.ret (match gW s with|some p=>.aF [.str p,ak 0]|none=>.aF [.str [],ak 6]) e0/\Ext h.n h e0) (mg 0 [.str s] .leaf) [] .none h:=by
  refine WF.seq (p:=[]) (by kernel_rfl) (W.of (RF (Y (m+7)) s h) (sM [.str s]) λaX m1=>.inl ⟨rfl,?_⟩)
  refine WF.seq (p:=[1]) (by kernel_rfl) (W.of (RG (Y (m+7)) s h1 N (N+1)) m1 λbx m2=>.inl ⟨rfl,?_⟩)
  refine WF.seq (p:=[1,1]) (by kernel_rfl) (W.of (RH (Y (m+7)) s h1 [.call 56 [.ptr N 0,.ptr (N+1) 0]] N (N+1)) m2 λdb m3=>.inl ⟨rfl,?_⟩)
  refine WF.seq (p:=[1,1,1]) (by kernel_rfl) ?_
  refine WF.seq (p:=[1,1,1,0]) (by kernel_rfl) (W.of (RI (Y (m+7)) s _ aa ao [.call 56 [.ptr N 0,.ptr (N+1) 0]] N (N+1) (N+2) (Q4 (m+5) s aa)) m3 λdc m4=>.inl ⟨rfl,?_⟩)
  refine WF.block (p:=[1,1,1,0,1]) (id:=0) (by kernel_rfl) ?_
  refine WF.range (p:=[1,1,1,0,1,0]) (t:=8) (ps:=[9]) (by kernel_rfl) (by kernel_rfl) (hf:=rfl) (hm:=m4) ?_
  let l7:=(ao.push (.defrd (some []))).push (.loop .ready none (bH Tryd.f45) dc [9] iB iS (N+6))
  have i0:iT N h l7 s .bK []:=by
   refine⟨?_,.inl ⟨rfl,rfl⟩,λy bc=>by simp at bc,?_,?_,?_,?_,?_,?_,?_,?_⟩
   · simp only[l7,ao,kE,aa,h1,N,J.fO,J.iY];grind
   · simp only[l7,ao,kE,aa,h1,N,J.fO,J.iY];grind
   · simp only[l7,ao,kE,aa,h1,N,J.fO,J.iY];grind
   · simp only[l7,ao,kE,aa,h1,N,J.fO,J.iY];grind
   · simp only[l7,ao,kE,aa,h1,N,J.fO,J.iY];grind
   · simp only[l7,ao,kE,aa,h1,N,J.fO,J.iY];grind
   · simp only[l7,ao,kE,aa,h1,N,J.fO,J.iY];grind
   · exact bn.trans (Nat.le_refl _) ((Ext.push (by simp[ao,kE,aa,h1];omega) _).trans (Nat.le_refl _) (Ext.push (by simp[ao,kE,aa,h1];omega) _))
   · simp[l7,ao,kE,aa,h1,N]
  have fY:l7.get (N+7)=some (.loop .ready none (bH Tryd.f45) dc [9] iB iS (N+6)):=by
   simp only[l7,ao,kE,aa,h1,N,J.fO,J.iY];grind
  have IE:aU.Mod dc [(4,.ptr (N+2) 0)]:=m4.sub ⟨rfl,trivial⟩
  have j2:aU.Mod dc [(2,.ptr N 0),(3,.ptr (N+1) 0)]:=m4.sub ⟨rfl,rfl,trivial⟩
  let wk:Option b2:=some (.loop .ready none (bH Tryd.f45) dc [9] iB iS (N+6))
  have sp:=Rf (m+6) (N+7) (N+3)
   (λaD x=>∃v st,iT N h x aD v st/\x.get (N+7)=wk/\fold [] (fX [] s)=fold st (fX [] aD)/\st.length+(fX [] aD).length<=(fX [] s).length/\aD.length<=50000)
   (λx=>∃t v st,iT N h x t v st/\x.get (N+7)=wk/\fold [] (fX [] s)=some st)
   (λw x=>w=j7/\fold [] (fX [] s)=none/\∃t v st,iT N h x t v st)
   (λs h=>Q2 (m+2) s h) (λaD x ag=>by
    obtain⟨v,st,hf,_⟩:=ag
    exact⟨jA hf.we,jA hf.sep,jA hf.num⟩)
   (λaD p t x ag cZ aZ=>by
    obtain⟨v,st,hf,aq,ov,CL,hlen⟩:=ag
    have bN:p.length<=50000/\t.length<=50000:=by
     rw[cZ] at hlen;simp at hlen;omega
    rcases IA (m+3) hf aq IE bN.1 (by omega) with⟨bp,v',cd,c1,c2,c3,fu⟩|⟨cd,c1,c2,c3⟩
    · have om:=c2.y4 wk
      refine .inl ⟨_,_,c1,jA om.we,jA om.sep,q2 rfl om.we,v',bp,om.R3 t,?_,?_,?_,bN.2⟩
      · rw[J.cv,if_neg (by omega),J.cv,if_pos rfl]
      · rw[ov,aZ,c3]
      · rw[aZ] at CL;simp at CL;omega
    · exact .inr (.inr ⟨j7,cd,c1,rfl,by rw[ov,aZ,c3],aD,v,st,c2⟩))
   (λaD x ag aZ=>by
    obtain⟨v,st,hf,aq,ov,CL,hlen⟩:=ag
    rcases IA (m+3) hf aq IE hlen (by omega) with⟨bp,v',cd,c1,c2,c3,fu⟩|⟨cd,c1,c2,c3⟩
    · refine .inl ⟨_,_,c1,aD,v',bp,c2.y4 wk,by rw[J.cv,if_pos rfl],?_⟩
      rw[ov,aZ,c3];rfl
    · exact .inr ⟨j7,cd,c1,rfl,by rw[ov,aZ,c3],aD,v,st,c2⟩) s l7 ae ⟨.bK,[],i0,fY,rfl,by simp,ae⟩
  rcases sp with⟨x,b5,t,v,st,z2,z3,z4⟩|⟨_,x,b5,rfl,z3,t,v,st,z2⟩
  · have rC:mf (N+7) dc [.collected (N+6),.call 56 [.ptr N 0,.ptr (N+1) 0]] .none (.ret (.aF []) x)=.ok .nrm dc [.collected (N+6),.call 56 [.ptr N 0,.ptr (N+1) 0]] .none (x.set (N+7) (some (.loop .exhausted none (bH Tryd.f45) dc [9] iB iS (N+6)))):=by
      simp only[mf,z3,wk]
    refine⟨.nrm,_,(congrArg (mf (N+7) dc [.collected (N+6),.call 56 [.ptr N 0,.ptr (N+1) 0]] .none) b5).trans rC,.inr ⟨by simp,.inl ⟨rfl,?_⟩⟩⟩
    have iC:=z2.y4 (some (.loop .exhausted none (bH Tryd.f45) dc [9] iB iS (N+6)))
    generalize x.set (N+7) (some (.loop .exhausted none (bH Tryd.f45) dc [9] iB iS (N+6)))=y at iC
    have IF:aU.Mod dc [(2,.ptr N 0),(3,.ptr (N+1) 0),(4,.ptr (N+2) 0)]:=m4.sub ⟨rfl,rfl,rfl,trivial⟩
    have no:gW s=none->(∃q,br an Tryd.f45 none (Y (m+7)) [1,1,1,1,0] ⟨[(2,.ptr N 0),(3,.ptr (N+1) 0),(4,.ptr (N+2) 0)],[.collected (N+6),.call 56 [.ptr N 0,.ptr (N+1) 0]],.none,y⟩ (.bm j7) ⟨[(2,.ptr N 0),(3,.ptr (N+1) 0)],[.collected (N+6),.call 56 [.ptr N 0,.ptr (N+1) 0]],q,y⟩)->
      WF an Tryd.f45 none (Y (m+7)) [1,1,1,1] (λe r d q ai=>∃e0,lA an (Y (m+7)) Tryd.f45 (.ok e r d q ai)=.ret (match gW s with|some p=>.aF [.str p,ak 0]|none=>.aF [.str [],ak 6]) e0/\Ext h.n h e0) dc [.collected (N+6),.call 56 [.ptr N 0,.ptr (N+1) 0]] .none y:=by
     intro c9 ah
     obtain⟨q,ah⟩:=ah
     refine WF.seq (p:=[1,1,1,1]) (by kernel_rfl) (W.of ah IF λgC m5=>.inr ⟨by simp,?_⟩)
     obtain⟨ai,dx,l2⟩:=ID (Y (m+7)) N 0 [] gC q y m5 iC.lu iC.CI iC.err
     rw[c9];exact⟨ai,dx,iC.ext.trans (Nat.le_refl _) l2⟩
    rcases iC.row with⟨rfl,fU⟩|⟨b,rs,rfl,kZ,ju,eI,i_⟩
    · have CJ:st=[]:=by simpa using fU
      subst CJ
      exact no (by simp only[gW,z4]) ⟨_,RU (Y (m+7)) N (N+1) (N+2) _ y (jA iC.mS) (tv (m+6) y)⟩
    · have wj:(st.map I.str).length=st.length:=by simp
      rw[wj] at iC
      cases st with
      |nil=>exact no (by simp only[gW,z4]) ⟨_,RW (Y (m+7)) N (N+1) (N+2) b 0 _ y (jA iC.mS) (A9 (by omega)) (tv (m+6) y)⟩
      |cons x l=>
       by_cases lG:l.length<8
       · have c9:gW s=some (h6 x l):=by simp only[gW,z4,if_pos lG]
         have CK:Y (m+7) (.fn 58) [.bool (lv (Int.ofNat (x::l).length) (Int.ofNat 8))] y=.ret (.aF []) y:=by
          exact(congrArg (λb=>Y (m+7) (.fn 58) [.bool b] y) (FQ (by simp;omega))).trans (CH (m+6) y)
         refine WF.seq (p:=[1,1,1,1]) (by kernel_rfl) (W.of (RX (Y (m+7)) N (N+1) (N+2) b (x::l).length _ y (jA iC.mS) (sP (by simp)) CK) IF λgC m5=>.inl ⟨rfl,?_⟩)
         obtain⟨ai,dj,hB⟩:=Rz (m+3) x l b rs .aE 0 0 9 y kZ eI (by simp;omega) (λy bc=>by have:=QY (iC.y3 y bc);omega) (λe=>by have ay:=iC.y3 x (by simp);rw[e] at ay;simp[jG] at ay)
         have AA:=iC.nd
         have w9:ai.get N=some (av [.str []] 9):=(hB.get N (by omega)).trans iC.CI
         have ge:ai.get (N+1)=some (av [ak 0] 34):=(hB.get _ (by omega)).trans iC.err
         have gd:ai.get (N+6)=some (.defrd (some [])):=(hB.get _ (by omega)).trans iC.lu
         have Sb:(ai.set N (some (av [.str (h6 x l)] 9))).get (N+1)=some (av [ak 0] 34):=by rw[J.cv,if_neg (by omega)];exact ge
         refine W.of (RY (Y (m+7)) N (N+1) (N+2) b (x::l).length _ y (h6 x l) ai _ _ (jA iC.mS) dj (q2 rfl w9) (q2 rfl Sb)) m5 λrR m6=>?_
         rw[c9]
         refine⟨_,R_ (Y (m+7)) N 0 (h6 x l) rR _ _ m6 ?_ ?_ ?_,?_⟩
         · rw[J.cv,if_neg (by omega),J.cv,if_neg (by omega)];exact gd
         · rw[J.cv,if_neg (by omega),J.cv,if_pos rfl]
         · rw[J.cv,if_pos rfl]
         · exact(((iC.ext.trans (by omega) hB).trans (Nat.le_refl _) (Ext.set (Nat.le_refl _) _)).trans (Nat.le_refl _) (Ext.set (by omega) _)).trans (Nat.le_refl _) (Ext.set (by omega) _)
       · have c9:gW s=none:=by simp only[gW,z4,if_neg lG]
         refine no c9 ⟨_,RV (Y (m+7)) N (N+1) (N+2) b (x::l).length _ y (jA iC.mS) (sP (by simp)) ?_⟩
         exact(congrArg (λb=>Y (m+7) (.fn 58) [.bool b] y) (FR (by simp;omega))).trans (tv (m+6) y)
  · have rC:mf (N+7) dc [.collected (N+6),.call 56 [.ptr N 0,.ptr (N+1) 0]] .none (.bm j7 x)=.ok (.bm j7) dc [.collected (N+6),.call 56 [.ptr N 0,.ptr (N+1) 0]] .none x:=rfl
    refine⟨.bm j7,_,(congrArg (mf (N+7) dc [.collected (N+6),.call 56 [.ptr N 0,.ptr (N+1) 0]] .none) b5).trans rC,.inr ⟨by simp,.inr ⟨by simp,?_⟩⟩⟩
    have c9:gW s=none:=by simp only[gW,z3]
    obtain⟨ai,dx,l2⟩:=ID (Y (m+7)) N 0 [] dc .none x j2 z2.lu z2.CI z2.err
    rw[c9]
    exact⟨ai,dx,z2.ext.trans (Nat.le_refl _) l2⟩
 obtain⟨e,r,d,q,ai,cK,e0,cf,hD⟩:=w
 exact⟨e0,M0 (intr:=fK) (n:=m+7) (args:=[.str s]) Tryd.func45 (by kernel_rfl) rfl (by kernel_rfl) ⟨e,r,d,q,ai,cK,cf⟩,hD⟩
theorem ow:tn gW:=λn s h aB ae=>by
 obtain⟨g,c,x⟩:=Sa (n-8) s h (by omega)
 rw[show n-8+8=n by omega] at c
 refine⟨g,c.trans ?_,x⟩
 cases gW s<;>rfl
end Go.Proofs.h3
