/-
  PROVED HERE: contracts of functions (De). No condition beside each statement's own.
-/
import Derived.Test.YtlelojncabdnoaaDoorDb
import Derived.Test.YtlelojncabdnoaaDoorSxa
import Derived.Test.YtlelojncabdnoaaDoorSxb
import Derived.Test.YtlelojncabdnoaaDoorTx
import Derived.Test.YtlelojncabdnoaaDoorDc
set_option linter.unusedVariables false
set_option linter.unusedSimpArgs false
set_option maxRecDepth 100000
set_option maxHeartbeats 1000000
namespace Go.Proofs.hD
open Go aS Go.Proofs
variable {Q:aU->aB->Prop} {R:bM->Prop} (call:cJ)
def kk(c:Nat):Bool:=!(decide (97<=c/\c<=122)||decide (48<=c/\c<=57)||decide (c=95)||decide (c=45))
theorem R9(n:Nat)(h:J):(List.range 256).map (λc=>Y (n+1) (.fn 74) [dx c] h)=(List.range 256).map (λc=>bM.ret (.bool (kk c)) h):=by kernel_rfl
theorem R_(n:Nat)(h:J){c:Nat}(ab:c<256):Y (n+1) (.fn 74) [dx c] h=.ret (.bool (kk c)) h:=Ow (R9 n h) ab
theorem Jn(s:List UInt8)(h:J):
  aZ al Tryd.f59 none call [0] (aB.mk [(0,I.str s)] [] az.none h) (aU.nrm)
   (aB.mk [(0,I.str s)] [] az.none h):=
 bK [0] [] 16 0 0 bJ
theorem Jo(s:List UInt8)(h:J):
  aZ al Tryd.f59 none call [1,0,0] (aB.mk [(0,I.str s)] [] az.none h) (aU.nrm)
   (aB.mk [(0,I.str s),(5,ai s.length),(6,I.int IntKind.i64 0)] [] az.none h):=
 bK [0,5,6] [] 16 0 0 bJ
theorem Sa(s:List UInt8)(i:Nat)(h:J)
  (h1:eu i s.length=false):
  aZ al Tryd.f59 none call [1,0,1,0,0] (aB.mk [(0,I.str s),(5,ai s.length),(6,ai i)] [] az.none h) (aU.exit 0)
   (aB.mk [(0,I.str s)] [] az.none h):=
 bK [0] [Hint.b false] 16 1 2 (hc h1 bJ)
theorem Sb(s:List UInt8)(i c:Nat)(h:J)
  (h1:eu i s.length=true)
  (aa:hb i s=some (dx c))
  (ao:call (cR.fn 74) [dx c] h=bM.ret (I.bool true) h):
  aZ al Tryd.f59 none call [1,0,1,0,0] (aB.mk [(0,I.str s),(5,ai s.length),(6,ai i)] [] az.none h) (aU.ret)
   (aB.mk [(2,I.bool false)] [] az.none h):=
 bK [2] [Hint.b true,Hint.v (dx c),Hint.c (I.bool true) h,Hint.b true] 16 4 9024 (r_ h1 aa ao bJ)
theorem Sc(s:List UInt8)(i c:Nat)(h:J)
  (h1:eu i s.length=true)
  (aa:hb i s=some (dx c))
  (ao:call (cR.fn 74) [dx c] h=bM.ret (I.bool false) h)
  (aI:arith BinOp.add IntKind.i64 (Int.ofNat i) (Int.ofNat 1)=some (ai (i+1))):
  aZ al Tryd.f59 none call [1,0,1,0,0] (aB.mk [(0,I.str s),(5,ai s.length),(6,ai i)] [] az.none h) (aU.nrm)
   (aB.mk [(0,I.str s),(5,ai s.length),(6,ai (i+1))] [] az.none h):=
 bK [0,5,6] [Hint.b true,Hint.v (dx c),Hint.c (I.bool false) h,Hint.b false,Hint.v (ai (i+1))] 16 5 144405 (ll h1 aa ao aI bJ)
theorem Sd(s:List UInt8)(h:J)
  (h1:(!cr s [])=true):
  aZ al Tryd.f59 none call [1,1] (aB.mk [(0,I.str s)] [] az.none h) (aU.ret)
   (aB.mk [(2,I.bool (dT s.length 16))] [] az.none h):=
 bK [2] (dR 4 15 []) 16 4 8738 (hc h1 bJ)
theorem Se(s:List UInt8)(h:J)
  (h1:(!cr s [])=false):
  aZ al Tryd.f59 none call [1,1] (aB.mk [(0,I.str s)] [] az.none h) (aU.ret)
   (aB.mk [(2,I.bool false)] [] az.none h):=
 bK [2] (dR 4 0 []) 16 4 8738 (hc h1 bJ)
theorem Sf(h:J):
  aZ al Tryd.f58 none call [] (aB.mk [(0,I.bool false)] [] az.none h) (aU.bu (I.iface 91 (I.agg [])))
   (aB.mk [] [] az.none h):=
 bK [] [Hint.b true] 16 1 2 (hc (by kernel_rfl:(!false)=true) bJ)
theorem Sg(h:J):
  aZ al Tryd.f58 none call [] (aB.mk [(0,I.bool true)] [] az.none h) (aU.nrm)
   (aB.mk [] [] az.none h):=
 bK [] [Hint.b false] 16 1 2 (hc (by kernel_rfl:(!true)=false) bJ)
theorem Sh(s:List UInt8)(c:Nat)(k:Int)(h:J)
  (h1:call (cR.fn 97) [I.str s,dx c] h=bM.ret (I.int IntKind.i64 k) h):
  aZ al Tryd.f93 none call [] (aB.mk [(0,I.str s),(1,dx c)] [] az.none h) (aU.ret)
   (aB.mk [(4,I.int IntKind.i64 k)] [] az.none h):=
 bK [4] [Hint.c (I.int IntKind.i64 k) h] 16 1 2 (hc h1 bJ)
theorem Si(s:List UInt8)(c:UInt8)(k:Int)(h:J)
  (h1:cr [c] s=true):
  aZ al Tryd.f90 none call [] (aB.mk [(0,I.str s),(1,I.str [c])] [] az.none h) (aU.ret)
   (aB.mk [(4,I.int IntKind.i64 0)] [] az.none h):=
 bK [4] (dR 5 1 []) 16 5 139811 (lk (by kernel_rfl:eJ (List.length [c]) 0=false) h1 bJ)
theorem Sj(s:List UInt8)(c:UInt8)(k:Int)(h:J)
  (h1:cr [c] s=false)
  (aa:hb 0 [c]=some (dx (BitVec.toFin (UInt8.toBitVec c)).1))
  (ao:call (cR.fn 93) [I.str s,dx (BitVec.toFin (UInt8.toBitVec c)).1] h=bM.ret (I.int IntKind.i64 k) h):
  aZ al Tryd.f90 none call [] (aB.mk [(0,I.str s),(1,I.str [c])] [] az.none h) (aU.ret)
   (aB.mk [(4,I.int IntKind.i64 k)] [] az.none h):=
 bK [4] (dR 6 1 [Hint.v (dx (UInt8.toNat c)),Hint.c (I.int IntKind.i64 k) h]) 16 8 572666966 (qu (by kernel_rfl:eJ (List.length [c]) 0=false) h1 (by kernel_rfl:eJ (List.length [c]) 1=true) aa ao bJ)
theorem index(s:List UInt8)(c:UInt8)(k:Int)(h:J)
  (h1:call (cR.fn 90) [I.str s,I.str [c]] h=bM.ret (I.int IntKind.i64 k) h):
  aZ al Tryd.f85 none call [] (aB.mk [(0,I.str s),(1,I.str [c])] [] az.none h) (aU.ret)
   (aB.mk [(4,I.int IntKind.i64 k)] [] az.none h):=
 bK [4] [Hint.c (I.int IntKind.i64 k) h] 16 1 2 (hc h1 bJ)
theorem split(s sep:List UInt8)(h:J):
  aZ al Tryd.f73 none call [] (aB.mk [(0,I.str s),(1,I.str sep),(2,ai 0)] [] az.none h) (aU.ret)
   (aB.mk [(6,I.fn 83 [] [I.ptr (J.n (J.push h (b8.cells [I.str s] 9 e3.own 0 0))) 0,I.ptr (J.n h) 0,I.ptr (J.n (J.push (J.push h (b8.cells [I.str s] 9 e3.own 0 0)) (b8.cells [I.str sep] 9 e3.own 0 0))) 0])] [] az.none (J.push (J.push (J.push h (b8.cells [I.str s] 9 e3.own 0 0)) (b8.cells [I.str sep] 9 e3.own 0 0)) (b8.cells [ai 0] 3 e3.own 0 0))):=
 bK [6] [] 16 0 0 bJ
theorem Sk(s sep:List UInt8)(v:I)(h:J)(ah:J)
  (h1:call (cR.fn 73) [I.str s,I.str sep,ai 0] h=bM.ret v ah):
  aZ al Tryd.f57 none call [] (aB.mk [(0,I.str s),(1,I.str sep)] [] az.none h) (aU.ret)
   (aB.mk [(4,v)] [] az.none ah):=
 bK [4] [Hint.c v ah] 16 1 2 (hc h1 bJ)
def fo(s:List UInt8):Bool:=s.all (λc=>!kk c.toNat)&&!s.isEmpty&&decide (s.length<=16)
theorem Jp(n:Nat)(s:List UInt8)(h:J)(ad:s.length<=1000000):∀(k i:Nat),s.length-i=k->i<=s.length->
  if(s.drop i).all (λc=>!kk c.toNat) then l2 al (bG Tryd.f59) none (Y (n+1)) (sub (c5 Tryd.f59) [1,0,1,0,0]) (k+1) ⟨[(0,.str s),(5,ai s.length),(6,ai i)],[],.none,h⟩ (.exit 0) ⟨[(0,.str s)],[],.none,h⟩
  else l2 al (bG Tryd.f59) none (Y (n+1)) (sub (c5 Tryd.f59) [1,0,1,0,0]) (k+1) ⟨[(0,.str s),(5,ai s.length),(6,ai i)],[],.none,h⟩ .ret ⟨[(2,.bool false)],[],.none,h⟩
 |0,i,hk,ag=>by
  have:s.drop i=[]:=List.drop_eq_nil_of_le (by omega)
  rw[this]
  exact .exit (Sa _ s i h (nD (by omega))) (by simp)
 |k+1,i,hk,ag=>by
  have bx:i<s.length:=by omega
  have ak:s.drop i=s[i]::s.drop (i+1):=List.drop_eq_getElem_cons bx
  have ab:=R_ n h (c:=(s[i]).toNat) (UInt8.toNat_lt _)
  have bc:=Jp n s h ad k (i+1) (by omega) (by omega)
  rw[ak,List.all_cons]
  cases aQ:kk (s[i]).toNat with
  |true=>
   rw[aQ] at ab
   exact .exit (Sb _ s i _ h (kH bx) (wo bx) ab) (by simp)
  |false=>
   rw[aQ] at ab
   have aC:=Sc (Y (n+1)) s i _ h (kH bx) (wo bx) ab (tT bx (by omega))
   simp only[Bool.not_false,Bool.true_and]
   split
   · rename_i aJ;rw[if_pos aJ] at bc;exact .step aC bc
   · rename_i aJ;rw[if_neg aJ] at bc;exact .step aC bc
theorem Sl(n:Nat)(s:List UInt8)(h:J)(ad:s.length<=50000):Y (n+2) (.fn 59) [.str s] h=.ret (.bool (fo s)) h:=by
 have ar:=Jp n s h (by omega) s.length 0 (by omega) (by omega)
 rw[List.drop_zero] at ar
 have tail:∃e Γ,(e=.ret\/e=.nrm)/\aZ al Tryd.f59 none (Y (n+1)) [] ⟨ie 0 [.str s],[],.none,h⟩ e (hi Γ h)/\hL al (bG Tryd.f59) Tryd.f59 Γ h=some (.bool (fo s)):=by
  split at ar
  · rename_i aJ
    have kP:aZ al Tryd.f59 none (Y (n+1)) [1,0,1] _ _ _:=aZ.block (p:=[1,0,1]) (id:=0) (by kernel_rfl) (eY.run (p:=[1,0,1,0]) (by kernel_rfl) ar (by omega))
    have vZ:=(Jo (Y (n+1)) s h)
    have aA:=Jn (Y (n+1)) s h
    have bk:∃Γ,aZ al Tryd.f59 none (Y (n+1)) [1,1] ⟨[(0,.str s)],[],.none,h⟩ .ret (hi Γ h)/\hL al (bG Tryd.f59) Tryd.f59 Γ h=some (.bool (fo s)):=by
     by_cases he:s=[]
     · refine⟨_,Se _ s h (by rw[he];rfl),?_⟩
       have:fo s=false:=by simp[fo,he]
       rw[this];rfl
     · have ae:cr s []=false:=by
         rw[ha];simpa using he
       refine⟨_,Sd _ s h (by rw[ae];rfl),?_⟩
       have av:hp (Int.ofNat s.length) (Int.ofNat 16)=decide (s.length<=16):=by simp[hp];omega
       have:fo s=decide (s.length<=16):=by
        have o4:s.isEmpty=false:=by cases s<;>simp at he⊢
        simp[fo,aJ,o4]
       rw[this,<-av];rfl
    obtain⟨Γ,Sm,Sn⟩:=bk
    exact⟨.ret,Γ,.inl rfl,eZ [] aA (eZ [1] (eZ [1,0] vZ kP) Sm),Sn⟩
  · rename_i aJ
    have kP:aZ al Tryd.f59 none (Y (n+1)) [1,0,1] _ _ _:=aZ.lh (p:=[1,0,1]) (id:=0) (by kernel_rfl) (eY.run (p:=[1,0,1,0]) (by kernel_rfl) ar (by omega)) (by simp)
    have vZ:=(Jo (Y (n+1)) s h)
    have aA:=Jn (Y (n+1)) s h
    refine⟨.ret,_,.inl rfl,eZ [] aA (nG [1] (eZ [1,0] vZ kP) (by simp)),?_⟩
    have:fo s=false:=by simp[fo,Bool.eq_false_iff.2 aJ]
    rw[this];rfl
 obtain⟨e,Γ,he,aj,eQ⟩:=tail
 exact hA (n:=n+1) Tryd.func59 aj he eQ
theorem Sp(a b:Nat):hp (Int.ofNat a) (Int.ofNat b)=decide (a<=b):=by
 unfold hp
 have:(Int.ofNat a<=Int.ofNat b)<->a<=b:=by
  have h1:Int.ofNat a=(a:Int):=rfl
  have aa:Int.ofNat b=(b:Int):=rfl
  rw[h1,aa];omega
 simp only[this]
theorem sS(a b:Nat):dP (Int.ofNat a) (Int.ofNat b)=decide (a=b):=by
 unfold dP
 have h1:Int.ofNat a=(a:Int):=rfl
 have aa:Int.ofNat b=(b:Int):=rfl
 rw[h1,aa,Bool.eq_iff_iff]
 simp only[beq_iff_eq,decide_eq_true_eq]
 omega
def di:List UInt8->List UInt8->List (List UInt8)
 |cur,[]=>[cur]
 |cur,c::l=>if c=47 then cur::di [] l else di (cur++[c]) l
theorem zP:al.underlying 9=some .string:=by kernel_rfl
theorem zQ{B:Nat}{h:J}{v:I}{x:List UInt8}{xs:List I}(dX:B<=h.n)(ar:xs.length<=100000)(B_:xs.all I.ca=true)(aj:aS.Row1 B 9 h v xs):
  ∃v' ah,en al (h.push (ay [.str x] 9)) 35 (some 35) v (.slice h.n 0 1 (.exact 1))=some (v',ah)/\aS.Row1 B 9 ah v' (xs++[.str x])/\Ext B h ah:=by
 have ag:(al.info? 9).map (λi=>(i.size,i.bytes))=some (1,16):=by kernel_rfl
 cases nR:al.info? 9 with
 |none=>rw[nR] at ag;cases ag
 |some i=>
  rw[nR] at ag
  simp only[Option.map_some,Option.some.injEq,Prod.mk.injEq] at ag
  refine Ox dX (e:=9) (by kernel_rfl) (by kernel_rfl) nR ag.1 (z:=.str []) (by kernel_rfl) rfl ?_ rfl B_ aj
  rw[ag.2]
  have:(4*(xs.length+1)+2048)*(16+1)<=281474976710656:=by omega
  simpa[jY] using this
theorem zR(l:List (List UInt8)):(l.map I.str).all I.ca=true:=by
 induction l with
 |nil=>rfl
 |cons a l bc=>simp[I.ca]
def fold:List (List UInt8)->List (List UInt8)->Option (List (List UInt8))
 |st,[]=>some st
 |st,x::l=>if x=[]\/x=[46] then fold st l else if x=[46,46] then(if st=[] then none else fold st.dropLast l) else if fo x=true then fold (st++[x]) l else none
def hn:List UInt8->List (List UInt8)->List UInt8
 |acc,[]=>acc
 |acc,y::l=>hn (acc++[47]++y) l
def eh(s:List UInt8):Option (List UInt8):=match fold [] (di [] s) with
 |some (x::l)=>if l.length<8 then some (hn x l) else none
 |_=>none
theorem Jq(a b:List UInt8):cr a b=decide (a=b):=by
 rw[ha,Bool.eq_iff_iff];simp
theorem w_{a b:List UInt8}(h:a=b):cr a b=true:=by rw[Jq];simp[h]
theorem jj{a b:List UInt8}(h:¬a=b):cr a b=false:=by rw[Jq];simp[h]
theorem Jr{a b:Nat}(h:a=b):dP (Int.ofNat a) (Int.ofNat b)=true:=by rw[sS];simp[h]
theorem Dq{a b:Nat}(h:¬a=b):dP (Int.ofNat a) (Int.ofNat b)=false:=by rw[sS];simp[h]
theorem Js{n:Nat}(h:0<n)(aC:n<=1000000):arith BinOp.sub IntKind.i64 (Int.ofNat n) (Int.ofNat 1)=some (ai (n-1)):=by
 have h1:=n2 (n-1) (by omega)
 have e:Int.ofNat n-Int.ofNat 1=((n-1:Nat):Int):=by
  have av:Int.ofNat n=(n:Int):=rfl
  have au:Int.ofNat 1=(1:Int):=rfl
  rw[av,au];omega
 simp only[arith,e,h1];rfl
theorem zS{h:J}{b e bB ag:Nat}{k:e3}{xs:List (List UInt8)}{rest:List I}(an:h.get b=some (.cells (xs.map .str++rest) e k bB ag)){i:Nat}(ag:i<xs.length):aO h b (0+i*1)=some (.str xs[i]):=by
 simp only[aO,an,ks,Nat.zero_add,Nat.mul_one]
 rw[List.getElem?_append_left (by simpa using ag)]
 simp[ag]
theorem Sq:al.underlying 35=some (.slice 9):=by kernel_rfl
theorem Sr:cQ al 9=some 1:=by kernel_rfl
theorem Jt{h:J}{b n:Nat}(aC:0<n):fV al h 35 (.slice b 0 n (.aH 1)) none (some (ai (n-1))) none=some (.slice b 0 (n-1) (.aH 1)):=by
 have ck:Nat.ble n n=true:=by simp
 have cn:Nat.ble (n-1) n=true:=by simp
 have fT:Nat.ble 0 (n-1)=true:=by simp
 simp only[fV,Sq,Sr,bounds,iz,eT,ck,cn,fT,if_true]
theorem Dr:∀(s cur:List UInt8) (n:Nat),cur.length+s.length<=n->∀x∈di cur s,x.length<=n
 |[],cur,n,h,x,U=>by simp[di] at U;subst U;simpa using h
 |c::s,cur,n,h,x,U=>by
  simp only[di] at U
  split at U
  · rcases List.mem_cons.1 U with rfl|U
    · simp at h;omega
    · exact Dr s [] n (by simp at h⊢;omega) x U
  · exact Dr s (cur++[c]) n (by simp at h⊢;omega) x U
theorem Ju:∀(s cur:List UInt8),di cur s≠[]
 |[],cur=>by simp[di]
 |c::s,cur=>by
  simp only[di]
  split
  · simp
  · exact Ju s _
theorem xa:∀(l st bq:List (List UInt8)),fold st l=some bq->(∀x∈st,fo x=true)->∀x∈bq,fo x=true
 |[],st,bq,h,ad=>by cases h;exact ad
 |x::l,st,bq,h,ad=>by
  simp only[fold] at h
  split at h
  · exact xa l st bq h ad
  · split at h
    · split at h
      · cases h
      · exact xa l _ bq h (λy aP=>ad y ((List.dropLast_sublist _).subset aP))
    · split at h
      · rename_i U
        refine xa l _ bq h (λy aP=>?_)
        rcases List.mem_append.1 aP with aP|aP
        · exact ad y aP
        · simp at aP;subst aP;exact U
      · cases h
theorem xb{x:List UInt8}(h:fo x=true):x.length<=16:=by
 simp only[fo,Bool.and_eq_true,decide_eq_true_eq] at h
 exact h.2
theorem Ds:∀(s cur:List UInt8),(di cur s).length<=s.length+1
 |[],cur=>by simp[di]
 |c::s,cur=>by
  simp only[di]
  split
  · have:=Ds s []
    simp;omega
  · have:=Ds s (cur++[c])
    simp;omega
theorem Ss(n:Nat)(s:List UInt8)(h:J):Y (n+1) (.fn 97) [.str s,dx 47] h=.ret (.int .i64 (mh 47 s 0)) h:=by
 unfold Y
 kernel_rfl
theorem St(n:Nat)(s:List UInt8)(h:J):Y (n+2) (.fn 93) [.str s,dx 47] h=.ret (.int .i64 (mh 47 s 0)) h:=
 hA (intr:=fl) (n:=n+1) (args:=[.str s,dx 47]) Tryd.func93 (Sh (Y (n+1)) s 47 _ h (Ss n s h)) (.inl rfl) (by kernel_rfl)
def qS:List UInt8->Int:=λs=>mh 47 s 0
theorem Su(n:Nat)(s:List UInt8)(h:J):Y (n+3) (.fn 90) [.str s,.str [47]] h=.ret (.int .i64 (qS s)) h:=by
 cases ae:cr [47] s with
 |true=>
  have ad:s=[47]:=by
   rw[ha] at ae
   exact(eq_of_beq ae).symm
  have er:qS s=0:=by rw[ad];rfl
  rw[er]
  exact hA (intr:=fl) (n:=n+2) (args:=[.str s,.str [47]]) Tryd.func90 (Si (Y (n+2)) s 47 0 h ae) (.inl rfl) (by kernel_rfl)
 |false=>
  exact hA (intr:=fl) (n:=n+2) (args:=[.str s,.str [47]]) Tryd.func90 (Sj (Y (n+2)) s 47 _ h ae rfl (St n s h)) (.inl rfl) (by kernel_rfl)
theorem Sv(n:Nat)(s:List UInt8)(h:J):Y (n+4) (.fn 85) [.str s,.str [47]] h=.ret (.int .i64 (qS s)) h:=
 hA (intr:=fl) (n:=n+3) (args:=[.str s,.str [47]]) Tryd.func85 (index (Y (n+3)) s 47 _ h (Su n s h)) (.inl rfl) (by kernel_rfl)
theorem Jv:∀(s cur:List UInt8) (i:Nat),(mh 47 s i=-1/\di cur s=[cur++s])\/
  (∃p r,s=p++47::r/\mh 47 s i=Int.ofNat (i+p.length)/\di cur s=(cur++p)::di [] r)
 |[],cur,i=>.inl ⟨rfl,by simp[di]⟩
 |c::l,cur,i=>by
  by_cases ab:c=47
  · refine .inr ⟨[],l,by simp[ab],?_,by simp[di,ab]⟩
    simp[mh,ab]
  · have ae:Nat.beq c.toNat 47=false:=by
      cases bj:Nat.beq c.toNat 47 with
      |false=>rfl
      |true=>exact absurd (UInt8.toNat_inj.1 ((Nat.eq_of_beq_eq_true bj).trans rfl)) ab
    rcases Jv l (cur++[c]) (i+1) with⟨h1,aa⟩|⟨p,r,h1,aa,ao⟩
    · exact .inl ⟨by simp[mh,ae,h1],by simp[di,ab,aa]⟩
    · refine .inr ⟨c::p,r,by simp[h1],?_,by simp[di,ab,ao]⟩
      simp only[mh,ae,aa,List.length_cons]
      congr 1;omega
theorem Sw(s:List UInt8):(qS s=-1/\di [] s=[s])\/(∃p r,s=p++47::r/\qS s=Int.ofNat p.length/\di [] s=p::di [] r):=by
 simpa[qS] using Jv s [] 0
def lB(s:List UInt8)(h:J):J:=((h.push (ay [.str s] 9)).push (ay [.str [47]] 9)).push (ay [ai 0] 3)
theorem Sx(n:Nat)(s:List UInt8)(h:J):Y (n+2) (.fn 57) [.str s,.str [47]] h=.ret (.fn 83 [] [.ptr (h.n+1) 0,.ptr h.n 0,.ptr (h.n+2) 0]) (lB s h):=by
 have Sy:Y (n+1) (.fn 73) [.str s,.str [47],ai 0] h=.ret (.fn 83 [] [.ptr (h.n+1) 0,.ptr h.n 0,.ptr (h.n+2) 0]) (lB s h):=
  hA (intr:=fl) (n:=n) (args:=[.str s,.str [47],ai 0]) Tryd.func73 (split (Y n) s [47] h) (.inl rfl) (by kernel_rfl)
 exact hA (intr:=fl) (n:=n+1) (args:=[.str s,.str [47]]) Tryd.func57 (Sk (Y (n+1)) s [47] _ h _ Sy) (.inl rfl) (by kernel_rfl)
theorem Sz(y:I)(b:Nat)(h:J)
  (h1:aO h (b+1) 0=some (I.str [47])):
  aZ al Tryd.f83 none call [0] (aB.mk [(0,y),(1,I.ptr (b+1) 0),(2,I.ptr b 0),(3,I.ptr (b+2) 0)] [] az.none h) (aU.nrm)
   (aB.mk [(0,y),(1,I.ptr (b+1) 0),(2,I.ptr b 0),(3,I.ptr (b+2) 0)] [] az.none h):=
 bK [0,1,2,3] [Hint.v (I.str [47]),Hint.b false] 16 2 35 (lk h1 (by kernel_rfl:eJ (List.length [47]) 0=false) bJ)
theorem SA(y:I)(b:Nat)(s:List UInt8)(k:Int)(h:J)
  (h1:aO h b 0=some (I.str s))
  (aa:aO h (b+1) 0=some (I.str [47]))
  (ao:call (cR.fn 85) [I.str s,I.str [47]] h=bM.ret (I.int IntKind.i64 k) h)
  (aI:eC k (Int.ofNat 0)=true):
  aZ al Tryd.f83 none call [1,0,0,0] (aB.mk [(0,y),(1,I.ptr (b+1) 0),(2,I.ptr b 0),(3,I.ptr (b+2) 0)] [] az.none h) (aU.exit 2)
   (aB.mk [(0,y),(1,I.ptr (b+1) 0),(2,I.ptr b 0),(3,I.ptr (b+2) 0)] [] az.none h):=
 bK [0,1,2,3] [Hint.v (I.str s),Hint.v (I.str [47]),Hint.c (I.int IntKind.i64 k) h,Hint.b true] 16 4 9029 (ll h1 aa ao aI bJ)
theorem SB(l b i:Nat)(s p r:List UInt8)(h:J)(ah:J)(fu:J)
  (h1:aO h b 0=some (I.str s))
  (aa:aO h (b+1) 0=some (I.str [47]))
  (ao:call (cR.fn 85) [I.str s,I.str [47]] h=bM.ret (ai i) h)
  (aI:aO h (b+2) 0=some (ai 0))
  (bl:arith BinOp.add IntKind.i64 (Int.ofNat i) (Int.ofNat 0)=some (ai i))
  (cg:fV al h 9 (I.str s) none (some (ai i)) none=some (I.str p))
  (da:call (cR.b7 l) [I.str p] h=bM.ret (I.bool true) ah)
  (cZ:aO ah b 0=some (I.str s))
  (oR:aO ah (b+1) 0=some (I.str [47]))
  (BF:arith BinOp.add IntKind.i64 (Int.ofNat i) (Int.ofNat (List.length [47]))=some (ai (i+1)))
  (BG:fV al ah 9 (I.str s) (some (ai (i+1))) none none=some (I.str r))
  (SC:some 1=some (List.length [I.str r])/\aS.storeCells ah b 0 [I.str r]=some fu/\I.aF []=I.aF []):
  aZ al Tryd.f83 none call [1,0,0,0] (aB.mk [(0,I.b7 l),(1,I.ptr (b+1) 0),(2,I.ptr b 0),(3,I.ptr (b+2) 0)] [] az.none h) (aU.nrm)
   (aB.mk [(0,I.b7 l),(1,I.ptr (b+1) 0),(2,I.ptr b 0),(3,I.ptr (b+2) 0)] [] az.none fu):=
 bK [0,1,2,3] [Hint.v (I.str s),Hint.v (I.str [47]),Hint.c (ai i) h,Hint.b false,Hint.v (I.str s),Hint.v (ai 0),Hint.v (ai i),Hint.v (I.str p),Hint.c (I.bool true) ah,Hint.b false,Hint.v (I.str s),Hint.v (I.str [47]),Hint.v (ai (i+1)),Hint.v (I.str r),Hint.hz (I.aF []) fu] 16 15 0x234526789abcdef (tY h1 aa ao (by kernel_rfl:eu i 0=false) aI bl cg da (by kernel_rfl:(!true)=false)<|qu cZ oR BF BG SC bJ)
theorem SD(l b i:Nat)(s p:List UInt8)(h:J)(ah:J)
  (h1:aO h b 0=some (I.str s))
  (aa:aO h (b+1) 0=some (I.str [47]))
  (ao:call (cR.fn 85) [I.str s,I.str [47]] h=bM.ret (ai i) h)
  (aI:aO h (b+2) 0=some (ai 0))
  (bl:arith BinOp.add IntKind.i64 (Int.ofNat i) (Int.ofNat 0)=some (ai i))
  (cg:fV al h 9 (I.str s) none (some (ai i)) none=some (I.str p))
  (da:call (cR.b7 l) [I.str p] h=bM.ret (I.bool false) ah):
  aZ al Tryd.f83 none call [1,0,0,0] (aB.mk [(0,I.b7 l),(1,I.ptr (b+1) 0),(2,I.ptr b 0),(3,I.ptr (b+2) 0)] [] az.none h) (aU.ret)
   (aB.mk [(0,I.b7 l),(1,I.ptr (b+1) 0),(2,I.ptr b 0),(3,I.ptr (b+2) 0)] [] az.none ah):=
 bK [0,1,2,3] [Hint.v (I.str s),Hint.v (I.str [47]),Hint.c (ai i) h,Hint.b false,Hint.v (I.str s),Hint.v (ai 0),Hint.v (ai i),Hint.v (I.str p),Hint.c (I.bool false) ah,Hint.b true] 16 10 151484004506 (tY h1 aa ao (by kernel_rfl:eu i 0=false) aI bl cg da (by kernel_rfl:(!false)=true) bJ)
theorem SE(l b i:Nat)(s p:List UInt8)(w:I)(h:J)(ah:J)
  (h1:aO h b 0=some (I.str s))
  (aa:aO h (b+1) 0=some (I.str [47]))
  (ao:call (cR.fn 85) [I.str s,I.str [47]] h=bM.ret (ai i) h)
  (aI:aO h (b+2) 0=some (ai 0))
  (bl:arith BinOp.add IntKind.i64 (Int.ofNat i) (Int.ofNat 0)=some (ai i))
  (cg:fV al h 9 (I.str s) none (some (ai i)) none=some (I.str p))
  (da:call (cR.b7 l) [I.str p] h=bM.bu w ah):
  aZ al Tryd.f83 none call [1,0,0,0] (aB.mk [(0,I.b7 l),(1,I.ptr (b+1) 0),(2,I.ptr b 0),(3,I.ptr (b+2) 0)] [] az.none h) (aU.bu w)
   (aB.mk [] [] az.none ah):=
 bK [] [Hint.v (I.str s),Hint.v (I.str [47]),Hint.c (ai i) h,Hint.b false,Hint.v (I.str s),Hint.v (ai 0),Hint.v (ai i),Hint.v (I.str p),Hint.p w ah] 16 9 9467750281 (pc h1 aa ao (by kernel_rfl:eu i 0=false) aI bl cg da bJ)
theorem SF(l b:Nat)(s:List UInt8)(v:I)(h:J)(ah:J)
  (h1:aO h b 0=some (I.str s))
  (aa:call (cR.b7 l) [I.str s] h=bM.ret v ah):
  aZ al Tryd.f83 none call [1,1] (aB.mk [(0,I.b7 l),(1,I.ptr (b+1) 0),(2,I.ptr b 0),(3,I.ptr (b+2) 0)] [] az.none h) (aU.nrm)
   (aB.mk [] [] az.none ah):=
 bK [] [Hint.v (I.str s),Hint.c v ah] 16 2 35 (lk h1 aa bJ)
theorem SG(l b:Nat)(s:List UInt8)(v:I)(h:J)(ah:J)
  (h1:aO h b 0=some (I.str s))
  (aa:call (cR.b7 l) [I.str s] h=bM.bu v ah):
  aZ al Tryd.f83 none call [1,1] (aB.mk [(0,I.b7 l),(1,I.ptr (b+1) 0),(2,I.ptr b 0),(3,I.ptr (b+2) 0)] [] az.none h) (aU.bu v)
   (aB.mk [] [] az.none ah):=
 bK [] [Hint.v (I.str s),Hint.p v ah] 16 2 35 (lk h1 aa bJ)
def sU(l b:Nat):Env:=[(0,.b7 l),(1,.ptr (b+1) 0),(2,.ptr b 0),(3,.ptr (b+2) 0)]
def Jw(b:Nat)(s:List UInt8)(h:J):Prop:=aO h b 0=some (.str s)/\aO h (b+1) 0=some (.str [47])/\aO h (b+2) 0=some (ai 0)
theorem Jx(call:cJ)(l b:Nat)(b3:List UInt8->J->Prop)(Q:J->Prop)(R:I->J->Prop)
  (xc:∀s h,call (.fn 85) [.str s,.str [47]] h=.ret (.int .i64 (qS s)) h)
  (iN:∀s h,b3 s h->Jw b s h)
  (k0:∀s p r h,b3 s h->s=p++47::r->di [] s=p::di [] r->
   (∃ah fu,call (.b7 l) [.str p] h=.ret (.bool true) ah/\aO ah b 0=some (.str s)/\aO ah (b+1) 0=some (.str [47])/\aS.storeCells ah b 0 [.str r]=some fu/\b3 r fu)\/
   (∃ah,call (.b7 l) [.str p] h=.ret (.bool false) ah/\Q ah)\/(∃w ah,call (.b7 l) [.str p] h=.bu w ah/\R w ah)):
  ∀(k:Nat) (s:List UInt8) (h:J),s.length<=k->s.length<=50000->b3 s h->
   (∃aV ah,eY al Tryd.f83 none call [1,0,0] (k+1) ⟨sU l b,[],.none,h⟩ (.exit 2) ⟨sU l b,[],.none,ah⟩/\b3 aV ah/\di [] aV=[aV])\/
   (∃ah,eY al Tryd.f83 none call [1,0,0] (k+1) ⟨sU l b,[],.none,h⟩ .ret ⟨sU l b,[],.none,ah⟩/\Q ah)\/
   (∃w ah,eY al Tryd.f83 none call [1,0,0] (k+1) ⟨sU l b,[],.none,h⟩ (.bu w) ⟨[],[],.none,ah⟩/\R w ah)
 |k,s,h,hk,ad,ag=>by
  obtain⟨c1,c2,c3⟩:=iN s h ag
  rcases Sw s with⟨av,au⟩|⟨p,r,av,au,bm⟩
  · exact .inl ⟨s,h,.exit (SA call (.b7 l) b s (-1) h c1 c2 (by rw[xc,av]) (by kernel_rfl)) (by simp),ag,au⟩
  · have ar:s.length=p.length+(r.length+1):=by rw[av];simp
    have a0:arith .add .i64 (Int.ofNat p.length) (Int.ofNat 0)=some (ai p.length):=GU (j:=0) (by omega)
    have bO:arith .add .i64 (Int.ofNat p.length) (Int.ofNat (List.length [(47:UInt8)]))=some (ai (p.length+1)):=GU (j:=1) (by omega)
    have aT:fV al h 9 (.str s) none (some (ai p.length)) none=some (.str p):=by
     rw[GX zP (by omega),av];simp
    have Dt:call (.fn 85) [.str s,.str [47]] h=.ret (ai p.length) h:=by rw[xc,au]
    rcases k0 s p r h ag av bm with⟨ah,fu,gH,ic,sV,Du,SH⟩|⟨ah,gH,ic⟩|⟨w,ah,gH,ic⟩
    · have bb:fV al ah 9 (.str s) (some (ai (p.length+1))) none none=some (.str r):=by
        rw[OA zP (by omega),av]
        congr 2
        rw[List.drop_append];simp
      have aC:=SB call l b p.length s p r h ah fu c1 c2 Dt c3 a0 aT gH ic sV bO bb ⟨rfl,Du,rfl⟩
      cases k with
      |zero=>omega
      |succ k=>
       rcases Jx call l b b3 Q R xc iN k0 k r fu (by omega) (by omega) SH with⟨aV,x,bS,z2⟩|⟨x,bS,z2⟩|⟨w,x,bS,z2⟩
       · exact .inl ⟨aV,x,.step aC bS,z2⟩
       · exact .inr (.inl ⟨x,.step aC bS,z2⟩)
       · exact .inr (.inr ⟨w,x,.step aC bS,z2⟩)
    · exact .inr (.inl ⟨ah,.exit (SD call l b p.length s p h ah c1 c2 Dt c3 a0 aT gH) (by simp),ic⟩)
    · exact .inr (.inr ⟨w,ah,.exit (SE call l b p.length s p w h ah c1 c2 Dt c3 a0 aT gH) (by simp),ic⟩)
theorem SI(n l b:Nat)(b3:List UInt8->J->Prop)(Q:J->Prop)(R:I->J->Prop)
  (xc:∀s h,Y n (.fn 85) [.str s,.str [47]] h=.ret (.int .i64 (qS s)) h)
  (iN:∀s h,b3 s h->Jw b s h)
  (k0:∀s p r h,b3 s h->s=p++47::r->di [] s=p::di [] r->
   (∃ah fu,Y n (.b7 l) [.str p] h=.ret (.bool true) ah/\aO ah b 0=some (.str s)/\aO ah (b+1) 0=some (.str [47])/\aS.storeCells ah b 0 [.str r]=some fu/\b3 r fu)\/
   (∃ah,Y n (.b7 l) [.str p] h=.ret (.bool false) ah/\Q ah)\/(∃w ah,Y n (.b7 l) [.str p] h=.bu w ah/\R w ah))
  (nZ:∀s h,b3 s h->di [] s=[s]->(∃v ah,Y n (.b7 l) [.str s] h=.ret v ah/\Q ah)\/(∃w ah,Y n (.b7 l) [.str s] h=.bu w ah/\R w ah))
  (s:List UInt8)(h:J)(ad:s.length<=50000)(ag:b3 s h):
  (∃ah,Y (n+1) (.fn 83) [.b7 l,.ptr (b+1) 0,.ptr b 0,.ptr (b+2) 0] h=.ret (.aF []) ah/\Q ah)\/
  (∃w ah,Y (n+1) (.fn 83) [.b7 l,.ptr (b+1) 0,.ptr b 0,.ptr (b+2) 0] h=.bu w ah/\R w ah):=by
 have aA:=Sz (Y n) (.b7 l) b h (iN s h ag).2.1
 have fin:∀{e:aU} {Γ:Env} {ah:J},(e=.ret\/e=.nrm)->aZ al Tryd.f83 none (Y n) [1] ⟨sU l b,[],.none,h⟩ e (hi Γ ah)->hL al (bG Tryd.f83) Tryd.f83 Γ ah=some (.aF [])->
   Y (n+1) (.fn 83) [.b7 l,.ptr (b+1) 0,.ptr b 0,.ptr (b+2) 0] h=.ret (.aF []) ah:=λhe aj eQ=>
  hA (intr:=fl) (n:=n) (args:=[.b7 l,.ptr (b+1) 0,.ptr b 0,.ptr (b+2) 0]) Tryd.func83 (eZ [] aA aj) he eQ
 have bu:∀{w:I} {Γ:Env} {ah:J},aZ al Tryd.f83 none (Y n) [1] ⟨sU l b,[],.none,h⟩ (.bu w) (hi Γ ah)->
   Y (n+1) (.fn 83) [.b7 l,.ptr (b+1) 0,.ptr b 0,.ptr (b+2) 0] h=.bu w ah:=λaj=>
  B9 (intr:=fl) (n:=n) (args:=[.b7 l,.ptr (b+1) 0,.ptr b 0,.ptr (b+2) 0]) Tryd.func83 (by kernel_rfl) rfl (by kernel_rfl) (eZ [] aA aj)
 rcases Jx (Y n) l b b3 Q R xc iN k0 s.length s h (Nat.le_refl _) ad ag with⟨aV,ah,bS,z2,z3⟩|⟨ah,bS,z2⟩|⟨w,ah,bS,z2⟩
 · have ae:=aZ.block (p:=[1,0]) (id:=2) (by kernel_rfl) (eY.run (p:=[1,0,0]) (by kernel_rfl) bS (by omega))
   have c1:=(iN aV ah z2).1
   rcases nZ aV ah z2 z3 with⟨v,fu,gH,ic⟩|⟨w,fu,gH,ic⟩
   · exact .inl ⟨fu,fin (.inr rfl) (eZ [1] ae (SF (Y n) l b aV v ah fu c1 gH)) (by kernel_rfl),ic⟩
   · exact .inr ⟨w,fu,bu (eZ [1] ae (SG (Y n) l b aV w ah fu c1 gH)),ic⟩
 · have ae:=aZ.lh (p:=[1,0]) (id:=2) (by kernel_rfl) (eY.run (p:=[1,0,0]) (by kernel_rfl) bS (by omega)) (by simp)
   exact .inl ⟨ah,fin (.inl rfl) (nG [1] ae (by simp)) (by kernel_rfl),z2⟩
 · have ae:=aZ.lh (p:=[1,0]) (id:=2) (by kernel_rfl) (eY.run (p:=[1,0,0]) (by kernel_rfl) bS (by omega)) (by simp)
   exact .inr ⟨w,ah,bu (nG [1] ae (by simp)),z2⟩
theorem SJ(b:Nat)(h e2:J)
  (H1:aO h b (0+0)=some .c_)
  (cy:iB al 113 134 (I.ptr b 0) h=iT.val (I.ptr b 0) h)
  (dn:call (.fn 91) [aq b] h=bM.ret (aq b) h)
  (il:iB al 134 113 (I.ptr b 0) h=iT.val (I.ptr b 0) h)
  (sW:aS.storeCells h b (0+0) [aq b]=some e2):
  aZ al Tryd.f86 none call [] (aR [(0,aq b)] h) (.nrm)
   (aR [] e2):=
 bK [] [.v .c_,.v (.bool true),.b true,.v (aq b),.c (aq b) h,.v (aq b),.hz (.aF []) e2] 16 7 36717927 (sa H1 (by kernel_rfl:ec al h BinOp.eql 113 (Operand.tmp 5) (Operand.const (Value.pointer none)) I.c_ I.c_=some (I.bool true)) cy dn il (⟨by kernel_rfl,sW,rfl⟩:some 1=some 1/\aS.storeCells h b (0+0) [I.ptr b 0]=some e2/\I.aF []=I.aF []) bJ)
theorem SK(b:Nat)(h:J)(Dv:Bool)
  (H1:aO h b (0+0)=some (aq b))
  (cy:ec al h BinOp.neq 113 (Operand.tmp 17) (Operand.tmp 18) (I.ptr b 0) (I.ptr b 0)=some (I.bool Dv))
  (dn:Dv=false):
  aZ al Tryd.f86 none call [] (aR [(0,aq b)] h) (.nrm)
   (aR [] h):=
 bK [] [.v (aq b),.v (.bool false),.b false,.v (aq b),.v (.bool Dv),.b false] 16 6 2298437 (ll H1 (by kernel_rfl:ec al h BinOp.eql 113 (Operand.tmp 5) (Operand.const (Value.pointer none)) (I.ptr b 0) I.c_=some (I.bool false)) cy dn bJ)
theorem bws(b c m:Nat)(s:List UInt8)(v:I)(h aa e2 iR:J)
  (H1:call (.fn 86) [aq b] h=bM.ret (.aF []) e2)
  (cy:aO e2 b (0+1)=some v)
  (dn:en al e2 56 (some 9) v (I.str s)=some (I.slice c 0 m (cb.aH 1),aa))
  (il:aS.storeCells aa b (0+1) [.slice c 0 m (.aH 1)]=some iR):
  aZ al Tryd.f76 none call [] (aR [(0,aq b),(1,.str s)] h) (.ret)
   (aR [(4,ai s.length),(5,.ej)] iR):=
 bK [4,5] [.c (.aF []) e2,.v v,.hz (.slice c 0 m (.aH 1)) aa,.hz (.aF []) iR] 16 4 9029 (ll H1 cy dn (⟨by kernel_rfl,il,rfl⟩:some 1=some 1/\aS.storeCells aa b (0+1) [I.slice c 0 m (cb.aH 1)]=some iR/\I.aF []=I.aF []) bJ)
theorem Jy(b:Nat)(s:List UInt8)(v:I)(h aa e2 iR:J)
  (H1:call (.fn 86) [aq b] h=bM.ret (.aF []) e2)
  (cy:aO e2 b (0+1)=some v)
  (dn:en al e2 56 (some 9) v (I.str s)=some (I.bn,aa))
  (il:aS.storeCells aa b (0+1) [.bn]=some iR):
  aZ al Tryd.f76 none call [] (aR [(0,aq b),(1,.str s)] h) (.ret)
   (aR [(4,ai s.length),(5,.ej)] iR):=
 bK [4,5] [.c (.aF []) e2,.v v,.hz .bn aa,.hz (.aF []) iR] 16 4 9029 (ll H1 cy dn (⟨by kernel_rfl,il,rfl⟩:some 1=some 1/\aS.storeCells aa b (0+1) [I.bn]=some iR/\I.aF []=I.aF []) bJ)
theorem SL(b c m:Nat)(h:J)(km:List UInt8)(e2:J)
  (H1:aO (J.room h 12) b (0+1)=some (.slice c 0 m (.aH 1)))
  (cy:hR al Builtin.unsafeSliceData (Array.mk [56]) [.slice c 0 m (.aH 1)] (J.room h 12)=iT.val (aq c) (J.room h 12))
  (dn:oI al (J.room h 12) 130 (I.ptr c 0) (ai m)=some (I.str km,e2)):
  aZ al Tryd.f77 none call [] (aR [(0,aq b)] h) (.ret)
   (aR [(2,.str km)] e2):=
 bK [2] [.v (.slice c 0 m (.aH 1)),.v (aq c),.v (.slice c 0 m (.aH 1)),.hz (.str km) e2] 16 26 0x232456567892a356567892bcde (tY H1 cy dn (mG (aq b)) (tX (aq b)) (mG (.ptr b (0+1))) (tX (.ptr b (0+1))) (mG (.slice c 0 m (cb.aH 1))) (mG (aq c))<|ll (mG (ai m)) (by kernel_rfl:fO al (J.room h 12) 56 (I.slice c 0 m (cb.aH 1))=some (ai m)) (mG (.str km)) (tX (.str km)) bJ)
theorem SM(b:Nat)(h:J)(km:List UInt8)(e2:J)
  (H1:aO (J.room h 12) b (0+1)=some .bn)
  (cy:oI al (J.room h 12) 130 I.c_ (ai 0)=some (I.str km,e2)):
  aZ al Tryd.f77 none call [] (aR [(0,aq b)] h) (.ret)
   (aR [(2,.str km)] e2):=
 bK [2] [.v .bn,.v .c_,.v .bn,.hz (.str km) e2] 16 26 0x232456567892a356567892bcde (tY H1 (by kernel_rfl:hR al Builtin.unsafeSliceData (Array.mk [56]) [I.bn] (J.room h 12)=iT.val I.c_ (J.room h 12)) cy (mG (aq b)) (tX (aq b)) (mG (.ptr b (0+1))) (tX (.ptr b (0+1))) (mG .bn) (mG .c_)<|ll (mG (ai 0)) (by kernel_rfl:fO al (J.room h 12) 56 I.bn=some (ai 0)) (mG (.str km)) (tX (.str km)) bJ)
theorem SN(m b off N:Nat)(cp:cb)(h:J)(H:¬N=0/\(N=1->0<N/\∃s1,aO h b (off+0*1)=some (.str s1)/\R (.ret (.str s1) h))/\(¬N=1->(0<1->(1<=N/\N<9223372036854775808)/\∃aE,arith .quo .i64 (.ofNat 9223372036854775807) (.ofNat (N-1))=some (ai aE)/\¬aE<=1/\(1<=N/\N<9223372036854775808)/\1*(N-1)<9223372036854775808/\0+1*(N-1)<9223372036854775808/\bU al Tryd.f60 (Y m) [1,1,1,1,0,1,0] (aR [(0,.slice b off N cp),(1,.str [47]),(5,ai (0+1*(N-1))),(39,.slice b off N cp),(40,ai N),(41,ai 0)] h) (λey fK=>∃a_ g1 dI,ey=.exit 1/\fK=aR dI g1/\eI [(0,.slice b off N cp),(1,.str [47]),(5,ai a_)] dI/\∃g2,Y m (.fn 75) [aq g1.n,ai a_] (J.push g1 (ay [.c_,.bn] 115))=.ret (.aF []) g2/\0<N/\∃s2,aO g2 b (off+0*1)=some (.str s2)/\∃bZ v1 g3,Y m (.fn 76) [aq g1.n,.str s2] g2=.ret (.aF [ai bZ,v1]) g3/\∃cG eg n6,∃c1:cb,fV al g3 35 (.slice b off N cp) (some (ai 1)) none none=some (.slice cG eg n6 c1)/\bU al Tryd.f60 (Y m) [1,1,1,1,1,1,1,1,0,1,0] (aR [(1,.str [47]),(8,aq g1.n),(63,.slice cG eg n6 c1),(64,ai n6),(65,ai 0)] g3) (λey fK=>∃n7 g4 dQ,ey=.exit 3/\fK=aR dQ g4/\eI [(8,aq n7)] dQ/\∃bz g5,Y m (.fn 77) [aq n7] g4=.ret (.str bz) g5/\R (.ret (.str bz) g5))))/\(¬0<1->bU al Tryd.f60 (Y m) [1,1,1,1,0,1,0] (aR [(0,.slice b off N cp),(1,.str [47]),(5,ai 0),(39,.slice b off N cp),(40,ai N),(41,ai 0)] h) (λey fK=>∃n8 g6 la,ey=.exit 1/\fK=aR la g6/\eI [(0,.slice b off N cp),(1,.str [47]),(5,ai n8)] la/\∃g7,Y m (.fn 75) [aq g6.n,ai n8] (J.push g6 (ay [.c_,.bn] 115))=.ret (.aF []) g7/\0<N/\∃bT,aO g7 b (off+0*1)=some (.str bT)/\∃zT v2 g8,Y m (.fn 76) [aq g6.n,.str bT] g7=.ret (.aF [ai zT,v2]) g8/\∃n10 n11 n12,∃c2:cb,fV al g8 35 (.slice b off N cp) (some (ai 1)) none none=some (.slice n10 n11 n12 c2)/\bU al Tryd.f60 (Y m) [1,1,1,1,1,1,1,1,0,1,0] (aR [(1,.str [47]),(8,aq g6.n),(63,.slice n10 n11 n12 c2),(64,ai n12),(65,ai 0)] g8) (λey fK=>∃n13 g9 Jz,ey=.exit 3/\fK=aR Jz g9/\eI [(8,aq n13)] Jz/\∃b0 g10,Y m (.fn 77) [aq n13] g9=.ret (.str b0) g10/\R (.ret (.str b0) g10)))))):
  R (Y (m+1) (.fn 60) [.slice b off N cp,.str [47]] h):=
 fv [(1013,.f),(1029,.f),(63,.aY .nq),(4001,.hM [0,1,5,39,40,41] [(.exit 1,[(0,.is (.slice b off N cp)),(1,.is (.str [47])),(5,.n .i64)])]),(4003,.hM [1,8,63,64,65] [(.exit 3,[(8,.p)])])] [] Tryd.func60 H
theorem SO(b off N i n:Nat)(cp:cb)(h:J)(H:(i<N->i<N/\∃s1,aO h b (off+i*1)=some (.str s1)/\(n<=9223372036854775807/\9223372036854775807<9223372036854775808)/\¬9223372036854775807-n<List.length s1/\n+List.length s1<9223372036854775808/\i+1<9223372036854775808/\Q .nrm (aR [(0,.slice b off N cp),(1,.str [47]),(5,ai (n+List.length s1)),(39,.slice b off N cp),(40,ai N),(41,ai (i+1))] h))/\(¬i<N->Q (.exit 1) (aR [(0,.slice b off N cp),(1,.str [47]),(5,ai n),(39,.slice b off N cp),(40,ai N),(41,ai i)] h))):
  bU al Tryd.f60 call [1,1,1,1,0,1,0,0] (aR [(0,.slice b off N cp),(1,.str [47]),(5,ai n),(39,.slice b off N cp),(40,ai N),(41,ai i)] h) Q:=
 du [(1049,.f)] [0,1,5,39,40,41] [] H
theorem SP(w b off N i:Nat)(cp:cb)(h:J)(H:(i<N->i<N/\∃s1,aO h b (off+i*1)=some (.str s1)/\∃aE v1 g1,call (.fn 76) [aq w,.str [47]] h=.ret (.aF [ai aE,v1]) g1/\∃a_ v2 g2,call (.fn 76) [aq w,.str s1] g1=.ret (.aF [ai a_,v2]) g2/\i+1<9223372036854775808/\Q .nrm (aR [(1,.str [47]),(8,aq w),(63,.slice b off N cp),(64,ai N),(65,ai (i+1))] g2))/\(¬i<N->Q (.exit 3) (aR [(1,.str [47]),(8,aq w),(63,.slice b off N cp),(64,ai N),(65,ai i)] h))):
  bU al Tryd.f60 call [1,1,1,1,1,1,1,1,0,1,0,0] (aR [(1,.str [47]),(8,aq w),(63,.slice b off N cp),(64,ai N),(65,ai i)] h) Q:=
 du [] [1,8,63,64,65] [] H
theorem SQ(m b n:Nat)(h:J)(H:∃g1,Y m (.fn 86) [aq b] h=.ret (.aF []) g1/\¬n<0/\∃v1,aO (g1.room 13) b 1=some v1/\∃aE,s5 al 56 v1=some (ai aE)/\∃v2,aO (g1.room 13) b 1=some v2/\∃a_,fO al (g1.room 13) 56 v2=some (ai a_)/\(a_<=aE/\aE<9223372036854775808)/\l9 v1/\l9 v2/\aE-a_<n/\∃g2,Y m (.fn 87) [aq b,ai n] (g1.room 13)=.ret (.aF []) g2/\R (.ret (.aF []) g2)):
  R (Y (m+1) (.fn 75) [aq b,ai n] h):=
 fv [(1007,.f),(1021,.t)] [] Tryd.func75 H
theorem SR(m b n:Nat)(h:J)(H:∃v1,aO (h.room 16) b 1=some v1/\∃aE,s5 al 56 v1=some (ai aE)/\2*aE<9223372036854775808/\2*aE+n<9223372036854775808/\∃a_ bZ cG,∃c1:cb,∃g1,Y m (.fn 92) [ai (2*aE+n)] (h.room 16)=.ret (.slice a_ bZ cG c1) g1/\∃v2,aO g1 b 1=some v2/\∃eg,fO al g1 56 v2=some (ai eg)/\∃v3,fV al g1 56 (.slice a_ bZ cG c1) none (some (ai eg)) none=some v3/\l9 v1/\l9 v2/\aO (h.room 16) b 1=some v2/\l9 v3/\l9 v3/\∃v4,aO g1 b 1=some v4/\∃n6 g2,s6 al g1 56 v3 v4=some (ai n6,g2)/\sy v3/\∃g3,aS.storeCells g2 b 1 [v3]=some g3/\R (.ret (.aF []) g3)):
  R (Y (m+1) (.fn 87) [aq b,ai n] h):=
 fv [(13,.aY .nq)] [] Tryd.func87 H
theorem SS{P:Program}{h:J}{T E b n k:Nat}(hu:P.underlying T=some (.slice E))(ad:cQ P E=some 1)(hk:k<=n):fV P h T (.slice b 0 n (.aH 1)) none (some (ai k)) none=some (.slice b 0 k (.aH 1)):=by
 have ck:Nat.ble n n=true:=by rw[Nat.ble_eq];omega
 have cn:Nat.ble k n=true:=by rw[Nat.ble_eq];omega
 have fT:Nat.ble 0 k=true:=by rw[Nat.ble_eq];omega
 simp only[fV,hu,ad,bounds,iz,eT,ck,cn,fT,if_true,Nat.sub_zero]
def xd(B b:Nat)(h:J)(w:List UInt8):Prop:=∃a v,h.get b=some (ay [a,v] 115)/\(a=.c_\/a=.ptr b 0)/\og B 5 h v w/\b<B/\B<=h.n/\(w=[]->v=.bn)
theorem SU(n b:Nat)(h:J):Y (n+1) (.fn 91) [.ptr b 0] h=.ret (.ptr b 0) h:=by unfold Y;kernel_rfl
theorem Dw(n b:Nat)(h:J)(v:I)(ae:b<h.n)(an:h.get b=some (ay [.c_,v] 115)\/h.get b=some (ay [.ptr b 0,v] 115)):
  ∃ah,Y (n+2) (.fn 86) [.ptr b 0] h=.ret (.aF []) ah/\ah.get b=some (ay [.ptr b 0,v] 115)/\ah.n=h.n/\∀c,c≠b->ah.get c=h.get c:=by
 rcases an with an|an
 · refine⟨h.set b (some (ay [.ptr b 0,v] 115)),?_,e8 rfl,rfl,λc ab=>c9 ab rfl⟩
   have f1:al.underlying 113=some (.pointer 115):=by kernel_rfl
   have f2:al.underlying 134=some .unsafePointer:=by kernel_rfl
   have f3:cQ al 115=some 2:=by kernel_rfl
   have f4:liesAt al al.depth 115 (2/al.cellsOf 115) 0 115 1=true:=by kernel_rfl
   have v1:iB al 113 134 (I.ptr b 0) h=iT.val (I.ptr b 0) h:=by
    simp only[iB,f1,f2,f3,an];rfl
   have v2:iB al 134 113 (I.ptr b 0) h=iT.val (I.ptr b 0) h:=by
    simp only[iB,f1,f2,f3,an,List.length_cons,List.length_nil,f4];rfl
   have aj:=SJ (Y (n+1)) b h _ (ld1 an rfl) v1 (SU n b h) v2 (gI an rfl rfl)
   exact hA (intr:=fl) (n:=n+1) (args:=[.ptr b 0]) Tryd.func86 aj (.inr rfl) (by kernel_rfl)
 · refine⟨h,?_,an,rfl,λc _=>rfl⟩
   have he:ec al h BinOp.neq 113 (Operand.tmp 17) (Operand.tmp 18) (I.ptr b 0) (I.ptr b 0)=some (I.bool false):=by
    have av:al.underlying 113=some (.pointer 115):=by kernel_rfl
    have au:cQ al 115=some 2:=by kernel_rfl
    have bm:Nat.beq b b=true:=by simp
    simp only[ec,pE,hq,av,au,Am,bm]
    rfl
   exact hA (intr:=fl) (n:=n+1) (args:=[.ptr b 0]) Tryd.func86 (SK (Y (n+1)) b h false (ld1 an rfl) he rfl) (.inr rfl) (by kernel_rfl)
theorem Dx:∃i,al.info? 5=some i/\i.size=1/\i.bytes=1:=by
 have ag:(al.info? 5).map (λi=>(i.size,i.bytes))=some (1,1):=by kernel_rfl
 cases nR:al.info? 5 with
 |none=>rw[nR] at ag;cases ag
 |some i=>
  rw[nR] at ag
  simp only[Option.map_some,Option.some.injEq,Prod.mk.injEq] at ag
  exact⟨i,rfl,ag.1,ag.2⟩
theorem JA{i:TypeInfo}(ag:i.bytes=1){n:Nat}(aC:n<=1000000000):jY n i.bytes=true:=by
 rw[ag]
 have:(4*n+2048)*(1+1)<=281474976710656:=by omega
 simpa[jY] using this
theorem JB(n b B:Nat)(h:J)(w s:List UInt8)(ae:xd B b h w)(ar:w.length+s.length<=1000000000):∃ah,Y (n+3) (.fn 76) [.ptr b 0,.str s] h=.ret (.aF [ai s.length,.ej]) ah/\xd B b ah (w++s)/\mF b B h ah:=by
 obtain⟨a,v,an,aJ,Dy,uB,JC,o1⟩:=ae
 obtain⟨h1,c1,g1,aE,dO⟩:=Dw n b h v (by omega) (by rcases aJ with rfl|rfl;exact .inl an;exact .inr an)
 have ck:og B 5 h1 v w:=Dy.ext (by omega) λc ab _=>dO c (by omega)
 obtain⟨i,nR,uC,o5⟩:=Dx
 obtain⟨v',aa,bO,a2,a3⟩:=G2 (P:=al) (B:=B) (sT:=56) (xT:=some 9) (e:=5) (z:=dx 0) (by omega) (by kernel_rfl) (by kernel_rfl) nR uC (by kernel_rfl) rfl (JA o5 ar) ck
 have g2:=(a3.get b uB).trans g1
 have aC:=a3.n
 have sX:w++s=[]->v'=.bn:=by
  intro e
  obtain⟨rfl,rfl⟩:=List.append_eq_nil_iff.1 e
  obtain rfl:=o1 rfl
  have:en al h1 56 (some 9) .bn (.str [])=some (.bn,h1):=by
   have hu:al.underlying 56=some (.slice 5):=by kernel_rfl
   have ad:nV al (some 9)=true:=by kernel_rfl
   have aW:ek al 5=some (dx 0):=by kernel_rfl
   simp only[en,hu,ad,nR,aW,uC];rfl
  rw[this] at bO
  cases bO;rfl
 refine⟨aa.set b (some (ay [.ptr b 0,v'] 115)),?_,⟨.ptr b 0,v',e8 rfl,.inr rfl,a2.ext (by simp) λc ab _=>c9 (by omega) rfl,uB,by simp;omega,sX⟩,⟨by simp;omega,λc ab j3=>c9 j3 ((a3.get c ab).trans (dO c j3))⟩⟩
 rcases a2 with⟨rfl,_⟩|⟨c,r,rfl,_⟩
 · exact hA (intr:=fl) (n:=n+2) (args:=[.ptr b 0,.str s]) Tryd.func76 (Jy (Y (n+2)) b s v h aa h1 _ c1 (ld1 g1 rfl) bO (gI g2 rfl rfl)) (.inl rfl) (by kernel_rfl)
 · exact hA (intr:=fl) (n:=n+2) (args:=[.ptr b 0,.str s]) Tryd.func76 (bws (Y (n+2)) b c _ s v h aa h1 _ c1 (ld1 g1 rfl) bO (gI g2 rfl rfl)) (.inl rfl) (by kernel_rfl)
theorem SV(n b B:Nat)(h:J)(w:List UInt8)(ae:xd B b h w)(ar:w.length<=1000000000):∃ah,Y (n+1) (.fn 77) [.ptr b 0] h=.ret (.str w) ah/\Ext B h ah:=by
 obtain⟨a,v,g,aJ,aM,uB,aC,o1⟩:=ae
 rcases aM with⟨rfl,rfl⟩|⟨c,rest,rfl,ab,wu,wi⟩
 · have k4:oI al (J.room h 12) 130 I.c_ (ai 0)=some (.str [],J.room h 12):=by kernel_rfl
   exact⟨_,hA (intr:=fl) (n:=n) (args:=[.ptr b 0]) Tryd.func77 (SM (Y n) b h [] _ (ld1 (h:=h.room 12) g rfl) k4) (.inl rfl) (by kernel_rfl),Ext.room _ _ _⟩
 · by_cases hw:w=[]
   · exact absurd (o1 hw) (by simp)
   · have b9:w.length≠0:=by cases w<;>simp at hw⊢
     have CK:hR al Builtin.unsafeSliceData (Array.mk [56]) [I.slice c 0 w.length (cb.aH 1)] (J.room h 12)=iT.val (I.ptr c 0) (J.room h 12):=by
      simp only[hR]
      exact if_neg b9
     have k4:=OH (P:=al) (h:=h.room 12) (pT:=130) (u:=5) (c:=c) (e:=5) (w:=w) (rest:=rest) hw (by omega) (by kernel_rfl) (by kernel_rfl) (by kernel_rfl) ab
     exact⟨_,hA (intr:=fl) (n:=n) (args:=[.ptr b 0]) Tryd.func77 (SL (Y n) b c w.length h w _ (ld1 (h:=h.room 12) g rfl) CK k4) (.inl rfl) (by kernel_rfl),
      (Ext.room B h 12).trans (Nat.le_refl _) (Ext.set (by omega) _)⟩
theorem SX(n b B:Nat)(h:J)(v:I)(w s:List UInt8)(an:h.get b=some (ay [.ptr b 0,v] 115))(Dy:og B 5 h v w)(uB:b<B)(JC:B<=h.n)(b9:w++s≠[])(ar:w.length+s.length<=1000000000):∃ah,Y (n+3) (.fn 76) [.ptr b 0,.str s] h=.ret (.aF [ai s.length,.ej]) ah/\xd B b ah (w++s)/\mF b B h ah:=by
 obtain⟨h1,c1,g1,aE,dO⟩:=Dw n b h v (by omega) (.inr an)
 have ck:og B 5 h1 v w:=Dy.ext (by omega) λc ab _=>dO c (by omega)
 obtain⟨i,nR,uC,o5⟩:=Dx
 obtain⟨v',aa,bO,a2,a3⟩:=G2 (P:=al) (B:=B) (sT:=56) (xT:=some 9) (e:=5) (z:=dx 0) (by omega) (by kernel_rfl) (by kernel_rfl) nR uC (by kernel_rfl) rfl (JA o5 ar) ck
 have g2:=(a3.get b uB).trans g1
 have aC:=a3.n
 refine⟨aa.set b (some (ay [.ptr b 0,v'] 115)),?_,⟨.ptr b 0,v',e8 rfl,.inr rfl,a2.ext (by simp) λc ab _=>c9 (by omega) rfl,uB,by simp;omega,λe=>absurd e b9⟩,⟨by simp;omega,λc ab j3=>c9 j3 ((a3.get c ab).trans (dO c j3))⟩⟩
 rcases a2 with⟨rfl,_⟩|⟨c,r,rfl,_⟩
 · exact hA (intr:=fl) (n:=n+2) (args:=[.ptr b 0,.str s]) Tryd.func76 (Jy (Y (n+2)) b s v h aa h1 _ c1 (ld1 g1 rfl) bO (gI g2 rfl rfl)) (.inl rfl) (by kernel_rfl)
 · exact hA (intr:=fl) (n:=n+2) (args:=[.ptr b 0,.str s]) Tryd.func76 (bws (Y (n+2)) b c _ s v h aa h1 _ c1 (ld1 g1 rfl) bO (gI g2 rfl rfl)) (.inl rfl) (by kernel_rfl)
theorem SY(n m:Nat)(h:J)(hm:m<=1000000000):Y (n+1) (.fn 92) [ai m] h=.ret (.slice h.n 0 m (.aH 1)) (h.push (.cells (List.replicate m .bad) 5 .aH 0 0)):=by
 have hle:Nat.ble m 1099511627776=true:=by simp;omega
 have av:(Tryd.f92).resultTypes[0]? =some 56:=by kernel_rfl
 have au:al.underlying 56=some (.slice 5):=by kernel_rfl
 have bm:(Tryd.f92).body=none:=by kernel_rfl
 have cN:(Tryd.f92).name= "internal/bytealg.MakeNoZero" :=by kernel_rfl
 have fE:fl 92 [ai m] h=none:=rfl
 have dc:pH al Tryd.f92 "internal/bytealg.MakeNoZero" [ai m] h=some (.slice h.n 0 m (.aH 1),h.push (.cells (List.replicate m .bad) 5 .aH 0 0)):=by
  simp only[pH,av,au,hle];rfl
 show cF al fl (n+1) _ _ _=_
 simp only[cF,fE,oO,Tryd.func92,bm,cN,dc]
theorem SZ(n b m:Nat)(h:J)(ae:b<h.n)(an:h.get b=some (ay [.c_,.bn] 115))(aA:0<m)(hm:m<=1000000000):∃g c,Y (n+3) (.fn 75) [.ptr b 0,ai m] h=.ret (.aF []) g/\g.get b=some (ay [.ptr b 0,.slice c 0 0 (.aH 1)] 115)/\og h.n 5 g (.slice c 0 0 (.aH 1)) []/\mF b h.n h g:=by
 obtain⟨h1,c1,g1,aE,dO⟩:=Dw n b h .bn ae (.inl an)
 obtain⟨H,hH⟩:∃H,H=(h1.room 13).room 16:=⟨_,rfl⟩
 have uD:H.n=h1.n+29:=by rw[hH];simp
 have qT:H.get b=some (ay [.ptr b 0,.bn] 115):=by rw[hH];exact g1
 obtain⟨cy,xe⟩:∃cy,cy=H.push (.cells (List.replicate m .bad) 5 .aH 0 0):=⟨_,rfl⟩
 have Dz:cy.get b=some (ay [.ptr b 0,.bn] 115):=by rw[xe];exact ch (by omega) qT
 have JD:=SY n (0+m) H (by omega)
 obtain⟨dn,xf⟩:∃dn,dn=cy.set b (some (ay [.ptr b 0,.slice H.n 0 0 (.aH 1)] 115)):=⟨_,rfl⟩
 have jt:fV al cy 56 (.slice H.n 0 (0+m) (.aH 1)) none (some (ai 0)) none=some (.slice H.n 0 0 (.aH 1)):=SS (E:=5) (by kernel_rfl) (by kernel_rfl) (Nat.zero_le _)
 have S0:s6 al cy 56 (.slice H.n 0 0 (.aH 1)) .bn=some (ai 0,cy):=by kernel_rfl
 have zt:Y (n+2) (.fn 87) [.ptr b 0,ai m] (h1.room 13)=.ret (.aF []) dn:=by
  rw[Nat.zero_add] at JD jt
  refine SR (n+1) b m (h1.room 13) (R:=λx=>x=.ret (.aF []) dn) ?_
  rw[<-hH]
  refine⟨.bn,ld1 qT rfl,0,rfl,by omega,by omega,H.n,0,m,.aH 1,cy,?_,.bn,ld1 Dz rfl,0,rfl,_,jt,rfl,rfl,ld1 qT rfl,rfl,rfl,.bn,ld1 Dz rfl,0,cy,S0,rfl,dn,by rw[xf];exact gI Dz rfl rfl,rfl⟩
  rw[show 2*0+m=m by omega,xe];exact JD
 have bZ:dn.n=H.n+1:=by rw[xf,xe];rfl
 refine⟨dn,H.n,SQ (n+2) b m h (R:=λx=>x=.ret (.aF []) dn) ⟨h1,c1,by omega,.bn,ld1 (h:=h1.room 13) g1 rfl,0,rfl,.bn,ld1 (h:=h1.room 13) g1 rfl,0,rfl,by omega,rfl,rfl,by omega,dn,zt,rfl⟩,by rw[xf];exact e8 rfl,.inr ⟨H.n,List.replicate m .bad,rfl,?_,by omega,by omega⟩,⟨by omega,λc ab j3=>?_⟩⟩
 · rw[xf]
   refine c9 (by omega) ?_
   rw[xe];exact c8 rfl
 · rw[xf]
   refine c9 j3 ?_
   rw[xe]
   refine ch (by omega) ?_
   rw[hH];exact dO c j3
theorem S1{P:Program}{h:J}{T E b n:Nat}(hu:P.underlying T=some (.slice E))(ad:cQ P E=some 1)(h1:1<n):fV P h T (.slice b 0 n (.aH 1)) (some (ai 1)) none none=some (.slice b (0+1*1) (n-1) (.aH 1)):=by
 have ck:Nat.ble n n=true:=by rw[Nat.ble_eq];omega
 have cn:Nat.ble 1 n=true:=by rw[Nat.ble_eq];omega
 have fT:Nat.blt 1 n=true:=by rw[Nat.blt_eq];omega
 simp only[fV,hu,ad,bounds,iz,eT,ck,cn,fT,if_true]
 rw[if_neg (by decide)]
theorem JE:∀(a b:List (List UInt8)) (x:List UInt8),hn x (a++b)=hn (hn x a) b
 |[],b,x=>rfl
 |y::a,b,x=>JE a b _
theorem S2{xs:List (List UInt8)}{x:List UInt8}{j:Nat}(aG:j<xs.length):hn x (xs.take (j+1))=hn x (xs.take j)++[47]++xs[j]:=by
 rw[List.take_succ_eq_append_getElem aG,JE]
 rfl
theorem JF(N:Nat):∀(l:List (List UInt8)) (x:List UInt8),(∀y∈l,y.length<=N)->(hn x l).length<=x.length+(N+1)*l.length
 |[],x,_=>by simp[hn]
 |y::l,x,h=>by
  have h1:=JF N l (x++[47]++y) λz aW=>h z (by simp[aW])
  have aa:=h y (by simp)
  rw[hn,List.length_cons,Nat.mul_add]
  simp only[List.length_append,List.length_cons,List.length_nil] at h1
  omega
theorem S3(m:Nat)(x:List UInt8)(xs:List (List UInt8))(ez:Nat)(rest:List I)(k:e3)(bB up ty:Nat)(h:J)(aM:h.get ez=some (.cells ((x::xs).map .str++rest) ty k bB up))(zU:ez<h.n)(hlen:(x::xs).length<=1000)(j4:∀y∈x::xs,y.length<=50000)(U:x≠[]):
  ∃g,Y (m+4) (.fn 60) [.slice ez 0 (x::xs).length (.aH 1),.str [47]] h=.ret (.str (hn x xs)) g/\Ext h.n h g:=by
 obtain⟨fh,jJ⟩:∃fh,fh=x::xs:=⟨_,rfl⟩
 have vj:fh.length=xs.length+1:=by rw[jJ];rfl
 rw[<-jJ] at aM hlen j4⊢
 have aI:0<fh.length:=by omega
 have l4:∀{y},Ext h.n h y->∀i (ag:i<fh.length),aO y ez (0+i*1)=some (.str fh[i]):=λe i ag=>aS.OP e zU (zS aM ag)
 have er:fh[0]=x:=by simp[jJ]
 have es:∀i (ag:i<xs.length),fh[i+1]'(by omega)=xs[i]:=λi ag=>by simp[jJ]
 have ox:∀i,(hn x (xs.take i)).length<=50000+50001*1000:=λi=>by
  have h1:=JF 50000 (xs.take i) x λy aP=>j4 y (by rw[jJ];exact List.mem_cons_of_mem _ (List.take_subset _ _ aP))
  have aa:=j4 x (by simp[jJ])
  have ao:(xs.take i).length<=1000:=by rw[List.length_take];omega
  have bl:=Nat.mul_le_mul_left 50001 ao
  omega
 refine SN (m+3) ez 0 fh.length (.aH 1) h (R:=λy=>∃g,y=.ret (.str (hn x xs)) g/\Ext h.n h g) ⟨by omega,λaE=>?_,λaE=>⟨λ_=>?_,λh=>absurd (by omega) h⟩⟩
 · refine⟨aI,_,l4 (Ext.refl _ _) 0 aI,h,?_,Ext.refl _ _⟩
   obtain rfl:xs=[]:=List.eq_nil_of_length_eq_zero (by omega)
   rw[er];rfl
 have bj:∃q,arith .quo .i64 (Int.ofNat 9223372036854775807) (Int.ofNat (fh.length-1))=some (ai q)/\¬q<=1:=by
  refine⟨9223372036854775807/(fh.length-1),?_,?_⟩
  · have h1:¬Int.ofNat (fh.length-1)=0:=λh=>by have aa:((fh.length-1:Nat):Int)=0:=h;omega
    have aa:9223372036854775807/(fh.length-1)<9223372036854775808:=Nat.lt_of_le_of_lt (Nat.div_le_self _ _) (by omega)
    simp only[arith]
    rw[if_neg h1]
    have ao:(Int.ofNat 9223372036854775807).tdiv (Int.ofNat (fh.length-1))=((9223372036854775807/(fh.length-1):Nat):Int):=rfl
    rw[ao,n2 _ aa]
    rfl
  · have:2<=9223372036854775807/(fh.length-1):=(Nat.le_div_iff_mul_le (by omega)).2 (by omega)
    omega
 obtain⟨q,aT,bb⟩:=bj
 refine⟨⟨by omega,by omega⟩,q,aT,bb,⟨by omega,by omega⟩,by omega,by omega,?_⟩
 refine mH (λk st=>∃i n Γ,st=hi Γ h/\eI [(0,.slice ez 0 fh.length (.aH 1)),(1,.str [47]),(5,ai n),(39,.slice ez 0 fh.length (.aH 1)),(40,ai fh.length),(41,ai i)] Γ/\fh.length-i=k/\i<=fh.length/\0<n/\n<=1000+50000*i) ?_ fh.length _ (by omega) ⟨0,_,_,rfl,⟨rfl,rfl,rfl,rfl,rfl,rfl,trivial⟩,by omega,by omega,by omega,by omega⟩
 rintro k st ⟨i,n,Γ,rfl,fL,hk,ag,p1,XS⟩
 refine ij (SO (Y (m+3)) ez 0 _ i n (.aH 1) h ⟨λi1=>?_,λi1=>?_⟩) fL
 · have e:=j4 _ (List.getElem_mem i1)
   exact⟨i1,_,l4 (Ext.refl _ _) i i1,⟨by omega,by omega⟩,by omega,by omega,by omega,_,(by show _<k;omega),i+1,_,_,rfl,⟨rfl,rfl,rfl,rfl,rfl,rfl,trivial⟩,rfl,by omega,by omega,by omega⟩
 · obtain⟨H,hH⟩:∃H,H=h.push (ay [.c_,.bn] 115):=⟨_,rfl⟩
   have uD:H.n=h.n+1:=by rw[hH];rfl
   have gW:Ext h.n h H:=by rw[hH];exact Ext.push (Nat.le_refl _) _
   obtain⟨g,c,c1,x6,oD,uA⟩:=SZ m h.n n H (by omega) (by rw[hH];exact c8 rfl) p1 (by omega)
   have oy:=uA.n
   have zV:∀{x},mF h.n H.n H x->Ext h.n h x:=λe=>⟨by have:=e.n;omega,λd ak=>(e.get d (by omega) (by omega)).trans (gW.get d ak)⟩
   have cf:=ox 0
   rw[List.take_zero,hn] at cf
   obtain⟨g3,c3,JG,ga⟩:=SX m h.n H.n g (.slice c 0 0 (.aH 1)) [] x x6 oD (by omega) oy (by simpa using U) (by simp;omega)
   rw[List.nil_append] at JG
   have S4:mF h.n H.n H g3:=uA.trans (Nat.le_refl _) ga
   have d1:=S1 (P:=al) (h:=g3) (T:=35) (E:=9) (b:=ez) (n:=fh.length) (by kernel_rfl) (by kernel_rfl) (by omega)
   subst hH
   refine⟨n,h,_,rfl,rfl,⟨rfl,rfl,rfl,trivial⟩,g,c1,aI,x,by rw[<-er];exact l4 (zV uA) 0 aI,_,_,g3,c3,ez,_,fh.length-1,.aH 1,d1,?_⟩
   refine mH (λk st=>∃i y Γ,st=hi Γ y/\eI [(1,.str [47]),(8,.ptr h.n 0),(63,.slice ez (0+1*1) (fh.length-1) (.aH 1)),(64,ai (fh.length-1)),(65,ai i)] Γ/\fh.length-1-i=k/\i<=fh.length-1/\xd (h.n+1) h.n y (hn x (xs.take i))/\mF h.n (h.n+1) (h.push (ay [.c_,.bn] 115)) y) ?_ (fh.length-1) _ (by omega) ⟨0,g3,_,rfl,⟨rfl,rfl,rfl,rfl,rfl,trivial⟩,by omega,by omega,JG,S4⟩
   rintro gA st ⟨j,y,cu,rfl,S5,eP,aG,JH,aP⟩
   refine ij (SP (Y (m+3)) h.n ez _ _ j (.aH 1) y ⟨λh9=>?_,λh9=>?_⟩) S5
   · have JI:j<xs.length:=by omega
     have dI:=ox j
     have dQ:=ox (j+1)
     have au:=S2 (x:=x) JI
     rw[au] at dQ
     simp only[List.length_append,List.length_cons,List.length_nil] at dQ
     obtain⟨gH,b5,S6,bt⟩:=JB m h.n (h.n+1) y _ [47] JH (by simp;omega)
     obtain⟨ic,bQ,S7,bA⟩:=JB m h.n (h.n+1) gH _ xs[j] S6 (by simp;omega)
     refine⟨h9,xs[j],?_,_,_,gH,b5,_,_,ic,bQ,by omega,_,(by show _<gA;omega),j+1,ic,_,rfl,⟨rfl,rfl,rfl,rfl,rfl,trivial⟩,rfl,by omega,?_,(aP.trans (Nat.le_refl _) bt).trans (Nat.le_refl _) bA⟩
     · rw[show 0+1*1+j*1=0+(j+1)*1 by omega,<-es j JI]
       exact l4 (zV aP) (j+1) (by omega)
     · rw[au];exact S7
   · obtain rfl:j=fh.length-1:=by omega
     have dI:=ox (fh.length-1)
     obtain⟨g5,jC,hh⟩:=SV (m+2) h.n (h.n+1) y _ JH (by omega)
     rw[List.take_of_length_le (by omega)] at jC
     exact⟨h.n,y,_,rfl,rfl,⟨rfl,trivial⟩,hn x xs,g5,jC,g5,rfl,⟨by have:=hh.n;have:=(zV aP).n;omega,λd ak=>(hh.get d (by omega)).trans ((zV aP).get d ak)⟩⟩
theorem S8(s:List UInt8)(h:J):
  aZ al Tryd.f45 none call [0] (aB.mk [(0,I.str s)] [] az.none h) (aU.nrm)
   (aB.mk [(0,I.str s),(2,I.ptr (J.n h) 0),(3,I.ptr (J.n (J.push h (b8.cells [I.str []] 9 e3.own 0 0))) 0)] [] az.none (J.push (J.push h (b8.cells [I.str []] 9 e3.own 0 0)) (b8.cells [ai 0] 34 e3.own 0 0))):=
 bK [0,2,3] [] 16 0 0 bJ
theorem S9(s:List UInt8)(h:J)(a b:Nat):
  aZ al Tryd.f45 none call [1,0] (aB.mk [(0,I.str s),(2,I.ptr a 0),(3,I.ptr b 0)] [] az.none h) (aU.nrm)
   (aB.mk [(0,I.str s),(2,I.ptr a 0),(3,I.ptr b 0)] [bw.call 56 [I.ptr a 0,I.ptr b 0]] az.none h):=
 bK [0,2,3] [] 16 0 0 bJ
theorem S_(s:List UInt8)(h:J)(d:List bw)(a b:Nat):
  aZ al Tryd.f45 none call [1,1,0] (aB.mk [(0,I.str s),(2,I.ptr a 0),(3,I.ptr b 0)] d az.none h) (aU.nrm)
   (aB.mk [(0,I.str s),(2,I.ptr a 0),(3,I.ptr b 0),(4,I.ptr (J.n h) 0)] d az.none (J.push h (b8.cells [I.bn] 35 e3.own 0 0))):=
 bK [0,2,3,4] [] 16 0 0 bJ
theorem Ta(s:List UInt8)(v:I)(h:J)(ah:J)(d:List bw)(a b c:Nat)
  (H1:call (cR.fn 57) [I.str s,I.str [47]] h=bM.ret v ah):
  aZ al Tryd.f45 none call [1,1,1,0,0] (aB.mk [(0,I.str s),(2,I.ptr a 0),(3,I.ptr b 0),(4,I.ptr c 0)] d az.none h) (aU.nrm)
   (aB.mk [(2,I.ptr a 0),(3,I.ptr b 0),(4,I.ptr c 0),(8,v)] d az.none ah):=
 bK [2,3,4,8] [Hint.c v ah] 16 1 2 (hc H1 bJ)
theorem Tb(l c:Nat)(p:List UInt8)(h:J):
  aZ al Tryd.f45 (some l) call [1,1,1,0,1,0,0] (aB.mk [(9,I.str p),(4,I.ptr c 0)] [] az.none h) (aU.nrm)
   (aB.mk [(4,I.ptr c 0),(5,I.str p)] [] az.none h):=
 bK [4,5] [] 16 0 0 bJ
theorem Tc(l c:Nat)(h:J):
  aZ al Tryd.f45 (some l) call [1,1,1,0,1,0,1] (aB.mk [(5,I.str []),(4,I.ptr c 0)] [] az.none h) (aU.nrm)
   (aB.mk [(4,I.ptr c 0)] [] az.none h):=
 bK [4] (dR 2 3 []) 16 2 34 (hc (by kernel_rfl:cr [] []=true) bJ)
theorem Td(l c:Nat)(h:J):
  aZ al Tryd.f45 (some l) call [1,1,1,0,1,0,1] (aB.mk [(5,I.str [46]),(4,I.ptr c 0)] [] az.none h) (aU.nrm)
   (aB.mk [(4,I.ptr c 0)] [] az.none h):=
 bK [4] (dR 2 1 []) 16 2 35 (lk (by kernel_rfl:cr [46] []=false) (by kernel_rfl:cr [46] [46]=true) bJ)
theorem Te(l c:Nat)(h:J)
  (H1:aO h c 0=some I.bn)
  (cy:call (cR.fn 58) [I.bool (eu 0 0)] h=bM.bu (I.iface 91 (I.agg [])) h):
  aZ al Tryd.f45 (some l) call [1,1,1,0,1,0,1] (aB.mk [(5,I.str [46,46]),(4,I.ptr c 0)] [] az.none h) (aU.bu (I.iface 91 (I.agg [])))
   (aB.mk [(4,I.ptr c 0)] [] az.none h):=
 bK [4] (dR 3 1 [Hint.v I.bn,Hint.p (I.iface 91 (I.agg [])) h]) 16 5 144470 (qu (by kernel_rfl:cr [46,46] []=false) (by kernel_rfl:cr [46,46] [46]=false) (by kernel_rfl:cr [46,46] [46,46]=true) H1 cy bJ)
theorem Tf(l c b n:Nat)(h:J)
  (H1:aO h c 0=some (I.slice b 0 n (cb.aH 1)))
  (cy:call (cR.fn 58) [I.bool (eu 0 n)] h=bM.bu (I.iface 91 (I.agg [])) h):
  aZ al Tryd.f45 (some l) call [1,1,1,0,1,0,1] (aB.mk [(5,I.str [46,46]),(4,I.ptr c 0)] [] az.none h) (aU.bu (I.iface 91 (I.agg [])))
   (aB.mk [(4,I.ptr c 0)] [] az.none h):=
 bK [4] (dR 3 1 [Hint.v (I.slice b 0 n (cb.aH 1)),Hint.p (I.iface 91 (I.agg [])) h]) 16 5 144470 (qu (by kernel_rfl:cr [46,46] []=false) (by kernel_rfl:cr [46,46] [46]=false) (by kernel_rfl:cr [46,46] [46,46]=true) H1 cy bJ)
theorem Tg(l c b n m:Nat)(h e2:J)
  (H1:aO h c 0=some (I.slice b 0 n (cb.aH 1)))
  (cy:call (cR.fn 58) [I.bool (eu 0 n)] h=bM.ret (I.aF []) h)
  (dn:arith BinOp.sub IntKind.i64 (Int.ofNat n) (Int.ofNat 1)=some (ai m))
  (il:fV al h 35 (I.slice b 0 n (cb.aH 1)) none (some (ai m)) none=some (I.slice b 0 m (cb.aH 1)))
  (sW:aS.storeCells h c 0 [I.slice b 0 m (cb.aH 1)]=some e2):
  aZ al Tryd.f45 (some l) call [1,1,1,0,1,0,1] (aB.mk [(5,I.str [46,46]),(4,I.ptr c 0)] [] az.none h) (aU.nrm)
   (aB.mk [(4,I.ptr c 0)] [] az.none e2):=
 bK [4] (dR 3 1 [Hint.v (I.slice b 0 n (cb.aH 1)),Hint.c (I.aF []) h,Hint.v (I.slice b 0 n (cb.aH 1)),Hint.v (I.slice b 0 n (cb.aH 1)),Hint.v (ai m),Hint.v (I.slice b 0 m (cb.aH 1)),Hint.hz (I.aF []) e2]) 16 10 151488124809 (pc (by kernel_rfl:cr [46,46] []=false) (by kernel_rfl:cr [46,46] [46]=false) (by kernel_rfl:cr [46,46] [46,46]=true) H1 cy dn il (⟨by kernel_rfl,sW,rfl⟩:some 1=some 1/\aS.storeCells h c 0 [I.slice b 0 m (cb.aH 1)]=some e2/\I.aF []=I.aF []) bJ)
theorem Th(l c:Nat)(p:List UInt8)(h:J)
  (H1:cr p []=false)
  (cy:cr p [46]=false)
  (dn:cr p [46,46]=false)
  (il:call (cR.fn 59) [I.str p] h=bM.ret (I.bool false) h)
  (sW:call (cR.fn 58) [I.bool false] h=bM.bu (I.iface 91 (I.agg [])) h):
  aZ al Tryd.f45 (some l) call [1,1,1,0,1,0,1] (aB.mk [(5,I.str p),(4,I.ptr c 0)] [] az.none h) (aU.bu (I.iface 91 (I.agg [])))
   (aB.mk [(4,I.ptr c 0)] [] az.none h):=
 bK [4] (dR 3 0 [Hint.c (I.bool false) h,Hint.p (I.iface 91 (I.agg [])) h]) 16 5 144470 (qu H1 cy dn il sW bJ)
theorem Ti(l c b m:Nat)(v:I)(p:List UInt8)(h h1 aa:J)
  (H1:cr p []=false)
  (cy:cr p [46]=false)
  (dn:cr p [46,46]=false)
  (il:call (cR.fn 59) [I.str p] h=bM.ret (I.bool true) h)
  (sW:call (cR.fn 58) [I.bool true] h=bM.ret (I.aF []) h)
  (Tj:aO h c 0=some v)
  (Tk:en al (J.push h (b8.cells [I.str p] 9 e3.own 0 0)) 35 (some 35) v (I.slice (J.n h) 0 1 (cb.exact 1))=some (I.slice b 0 m (cb.aH 1),h1))
  (Tl:aS.storeCells h1 c 0 [I.slice b 0 m (cb.aH 1)]=some aa):
  aZ al Tryd.f45 (some l) call [1,1,1,0,1,0,1] (aB.mk [(5,I.str p),(4,I.ptr c 0)] [] az.none h) (aU.nrm)
   (aB.mk [(4,I.ptr c 0)] [] az.none aa):=
 bK [4] (dR 3 0 [Hint.c (I.bool true) h,Hint.c (I.aF []) h,Hint.v v,Hint.hz (I.slice b 0 m (cb.aH 1)) h1,Hint.hz (I.aF []) aa]) 16 8 591751049 (pc H1 cy dn il sW Tj Tk (⟨by kernel_rfl,Tl,rfl⟩:some 1=some 1/\aS.storeCells h1 c 0 [I.slice b 0 m (cb.aH 1)]=some aa/\I.aF []=I.aF []) bJ)
theorem Tm(a a2 c:Nat)(d:List bw)(h:J)
  (H1:aO h c 0=some I.bn)
  (cy:call (cR.fn 58) [I.bool false] h=bM.bu (I.iface 91 (I.agg [])) h):
  aZ al Tryd.f45 none call [1,1,1,1,0] (aB.mk [(2,I.ptr a 0),(3,I.ptr a2 0),(4,I.ptr c 0)] d az.none h) (aU.bu (I.iface 91 (I.agg [])))
   (aB.mk [(2,I.ptr a 0),(3,I.ptr a2 0)] d az.none h):=
 bK [2,3] (Hint.v I.bn::dR 4 0 [Hint.p (I.iface 91 (I.agg [])) h]) 16 6 2306868 (r_ H1 (by kernel_rfl:eu 0 0=false) cy bJ)
theorem Tn(a a2 c b n:Nat)(d:List bw)(h:J)
  (H1:aO h c 0=some (I.slice b 0 n (cb.aH 1)))
  (cy:eu 0 n=true)
  (dn:call (cR.fn 58) [I.bool (dT n 8)] h=bM.bu (I.iface 91 (I.agg [])) h):
  aZ al Tryd.f45 none call [1,1,1,1,0] (aB.mk [(2,I.ptr a 0),(3,I.ptr a2 0),(4,I.ptr c 0)] d az.none h) (aU.bu (I.iface 91 (I.agg [])))
   (aB.mk [(2,I.ptr a 0),(3,I.ptr a2 0)] d az.none h):=
 bK [2,3] (Hint.v (I.slice b 0 n (cb.aH 1))::Hint.b true::Hint.v (I.slice b 0 n (cb.aH 1))::dR 3 7 [Hint.p (I.iface 91 (I.agg [])) h]) 16 7 36844340 (r_ H1 cy dn bJ)
theorem To(a a2 c b n:Nat)(d:List bw)(h:J)
  (H1:aO h c 0=some (I.slice b 0 n (cb.aH 1)))
  (cy:eu 0 n=false)
  (dn:call (cR.fn 58) [I.bool false] h=bM.bu (I.iface 91 (I.agg [])) h):
  aZ al Tryd.f45 none call [1,1,1,1,0] (aB.mk [(2,I.ptr a 0),(3,I.ptr a2 0),(4,I.ptr c 0)] d az.none h) (aU.bu (I.iface 91 (I.agg [])))
   (aB.mk [(2,I.ptr a 0),(3,I.ptr a2 0)] d az.none h):=
 bK [2,3] (Hint.v (I.slice b 0 n (cb.aH 1))::dR 4 0 [Hint.p (I.iface 91 (I.agg [])) h]) 16 6 2306868 (r_ H1 cy dn bJ)
theorem Tp(a a2 c b n:Nat)(d:List bw)(h:J)
  (H1:aO h c 0=some (I.slice b 0 n (cb.aH 1)))
  (cy:eu 0 n=true)
  (dn:call (cR.fn 58) [I.bool (dT n 8)] h=bM.ret (I.aF []) h):
  aZ al Tryd.f45 none call [1,1,1,1,0] (aB.mk [(2,I.ptr a 0),(3,I.ptr a2 0),(4,I.ptr c 0)] d az.none h) (aU.nrm)
   (aB.mk [(2,I.ptr a 0),(3,I.ptr a2 0),(4,I.ptr c 0)] d az.none h):=
 bK [2,3,4] (Hint.v (I.slice b 0 n (cb.aH 1))::Hint.b true::Hint.v (I.slice b 0 n (cb.aH 1))::dR 3 7 [Hint.c (I.aF []) h]) 16 7 36844340 (r_ H1 cy dn bJ)
theorem Tq(a a2 c b n:Nat)(d:List bw)(h:J)(km:List UInt8)(e2 iR zW:J)
  (H1:aO h c 0=some (I.slice b 0 n (cb.aH 1)))
  (cy:call (cR.fn 60) [I.slice b 0 n (cb.aH 1),I.str [47]] h=bM.ret (I.str km) e2)
  (dn:aS.storeCells e2 a 0 [I.str km]=some iR)
  (il:aS.storeCells iR a2 0 [ai 0]=some zW):
  aZ al Tryd.f45 none call [1,1,1,1,1] (aB.mk [(2,I.ptr a 0),(3,I.ptr a2 0),(4,I.ptr c 0)] d az.none h) (aU.ret)
   (aB.mk [(2,I.ptr a 0),(3,I.ptr a2 0)] d az.none zW):=
 bK [2,3] [Hint.v (I.slice b 0 n (cb.aH 1)),Hint.c (I.str km) e2,Hint.hz (I.aF []) iR,Hint.hz (I.aF []) zW] 16 4 9029 (ll H1 cy (⟨by kernel_rfl,dn,rfl⟩:some 1=some 1/\aS.storeCells e2 a 0 [I.str km]=some iR/\I.aF []=I.aF []) (⟨by kernel_rfl,il,rfl⟩:some 1=some 1/\aS.storeCells iR a2 0 [ai 0]=some zW/\I.aF []=I.aF []) bJ)
theorem Tr(a b:Nat)(h:J):
  aZ al Tryd.f56 none call [] (aB.mk [(0,I.ptr a 0),(1,I.ptr b 0)] [] az.none h) (aU.nrm)
   (aB.mk [] [] az.none h):=
 bK [] [Hint.v (I.bool !true),Hint.b false] 16 2 35 (lk (by kernel_rfl:ec al h BinOp.neq 20 (Operand.tmp 4) (Operand.const Value.nilIface) I.ej I.ej=some (I.bool !true)) (by kernel_rfl:(!true)=false) bJ)
theorem Ts(a b:Nat)(h e2 iR:J)
  (H1:aS.storeCells h a 0 [I.str []]=some e2)
  (cy:aS.storeCells e2 b 0 [ai 6]=some iR):
  aZ al Tryd.f56 none call [] (aB.mk [(0,I.ptr a 0),(1,I.ptr b 0)] [] (az.act (I.iface 91 (I.agg []))) h) (aU.nrm)
   (aB.mk [] [] (az.done (I.iface 91 (I.agg []))) iR):=
 bK [] [Hint.v (I.bool !false),Hint.b true,Hint.hz (I.aF []) e2,Hint.hz (I.aF []) iR] 16 4 9029 (ll (by kernel_rfl:ec al h BinOp.neq 20 (Operand.tmp 4) (Operand.const Value.nilIface) (I.iface 91 (I.agg [])) I.ej=some (I.bool !false)) (by kernel_rfl:(!false)=true) (⟨by kernel_rfl,H1,rfl⟩:some 1=some 1/\aS.storeCells h a 0 [I.str []]=some e2/\I.aF []=I.aF []) (⟨by kernel_rfl,cy,rfl⟩:some 1=some 1/\aS.storeCells e2 b 0 [ai 6]=some iR/\I.aF []=I.aF []) bJ)
theorem DA(n:Nat)(h:J):Y (n+1) (.fn 58) [.bool true] h=.ret (.aF []) h:=
 hA (intr:=fl) (n:=n) (args:=[.bool true]) Tryd.func58 (Sg (Y n) h) (.inr rfl) (by kernel_rfl)
def kQ:I:=.iface 91 (.agg [])
theorem uE(n:Nat)(h:J):Y (n+1) (.fn 58) [.bool false] h=.bu kQ h:=
 B9 (intr:=fl) (n:=n) (args:=[.bool false]) Tryd.func58 (by kernel_rfl) rfl (by kernel_rfl) (Sf (Y n) h)
theorem _root_.aS.Row1.ext{B e:Nat}{h ah:J}{v:I}{xs:List I}(aj:aS.Row1 B e h v xs)(aC:h.n<=ah.n)(an:∀c,B<=c->c<h.n->ah.get c=h.get c):aS.Row1 B e ah v xs:=by
 rcases aj with h1|⟨c,rest,h1,aa,ao,aI,bl⟩
 · exact .inl h1
 · exact .inr ⟨c,rest,h1,(an c ao aI).trans aa,ao,by omega,bl⟩
noncomputable def jk:Code:=sub (c5 Tryd.f45) [1,1,1,0,1,0,0]
noncomputable def jD:Code:=sub (c5 Tryd.f45) [1,1,1,0,1,0,1]
structure jE(N:Nat)(h x:J)(xg:List UInt8)(v:I)(st:List (List UInt8)):Prop where
 nS:x.get (N+2)=some (ay [v] 35)
 row:aS.Row1 (N+8) 9 x v (st.map .str)
 zX:∀y∈st,fo y=true
 DB:x.get N=some (ay [.str []] 9)
 err:x.get (N+1)=some (ay [ai 0] 34)
 xg:x.get (N+3)=some (ay [.str xg] 9)
 sep:x.get (N+4)=some (ay [.str [47]] 9)
 num:x.get (N+5)=some (ay [ai 0] 3)
 mf:x.get (N+6)=some (.defrd (some []))
 ext:Ext N h x
 n_:N+8<=x.n
theorem jE.zY{N:Nat}{h x:J}{t:List UInt8}{v:I}{st:List (List UInt8)}(hf:jE N h x t v st)(o:Option b8):jE N h (x.set (N+7) o) t v st:=by
 obtain⟨bO,a2,a3,a4,a5,jy,jz,jA,a9,xh,zZ⟩:=hf
 refine⟨?_,a2.ext (by simp) (λc ab _=>by rw[J.cL,if_neg (by omega)]),a3,?_,?_,?_,?_,?_,?_,xh.trans (Nat.le_refl _) (Ext.set (by omega) _),by simpa using zZ⟩<;>(rw[J.cL,if_neg (by omega)];assumption)
theorem jE.Tt{N:Nat}{h x:J}{t:List UInt8}{v:I}{st:List (List UInt8)}(hf:jE N h x t v st)(CH:List UInt8):jE N h (x.set (N+3) (some (ay [.str CH] 9))) CH v st:=by
 obtain⟨bO,a2,a3,a4,a5,jy,jz,jA,a9,xh,zZ⟩:=hf
 refine⟨?_,a2.ext (by simp) (λc ab _=>by rw[J.cL,if_neg (by omega)]),a3,?_,?_,by rw[J.cL,if_pos rfl],?_,?_,?_,xh.trans (Nat.le_refl _) (Ext.set (by omega) _),by simpa using zZ⟩<;>(rw[J.cL,if_neg (by omega)];assumption)
theorem jE.JJ{N:Nat}{h x y:J}{t:List UInt8}{v v':I}{st bq:List (List UInt8)}(hf:jE N h x t v st)(he:Ext (N+8) x y)(aj:aS.Row1 (N+8) 9 y v' (bq.map .str))(ad:∀y∈bq,fo y=true):jE N h (y.set (N+2) (some (ay [v'] 35))) t v' bq:=by
 obtain⟨bO,a2,a3,a4,a5,jy,jz,jA,a9,xh,zZ⟩:=hf
 have aC:=he.n
 refine⟨by rw[J.cL,if_pos rfl],aj.ext (by simp) (λc ab _=>by rw[J.cL,if_neg (by omega)]),ad,?_,?_,?_,?_,?_,?_,(xh.trans (Nat.le_add_right N 8) he).trans (Nat.le_refl _) (Ext.set (by omega) _),by simp;omega⟩<;>(rw[J.cL,if_neg (by omega),he.get _ (by omega)];assumption)
theorem Tu(call:cJ)(l c cK need:Nat)(p:List UInt8){x cD:J}{r:aN}{e:aU}{Γ:Env}{q:az}(aC:need=bG Tryd.f45)(an:x.get l=some (.loop .ready none need r [9] jk jD cK))(hm:aS.Mod r [(4,.ptr c 0)])
  (ae:aZ al Tryd.f45 (some l) call [1,1,1,0,1,0,1] ⟨[(5,.str p),(4,.ptr c 0)],[],.none,x.set l (some (.loop .busy none need r [9] jk jD cK))⟩ e ⟨Γ,[],q,cD⟩)(hk:cD.get l=some (.loop .busy none need r [9] jk jD cK)):
  mj al call l [.str p] x=Cc l e need r [9] jk jD cK cD:=by
 subst aC
 have has:dy al (bG Tryd.f45) (some l) call jk ⟨put 9 (.str p) [(4,.ptr c 0)],[],.none,x⟩ .nrm ⟨[(4,.ptr c 0),(5,.str p)],[],.none,x⟩:=
  dy.pre (st1:=⟨put 9 (.str p) [(4,.ptr c 0)],[],.none,x⟩) (Tb call l c p x) ⟨rfl,rfl,trivial⟩ rfl rfl rfl
 exact OB an hm has (dy.pre (st1:=⟨[(4,.ptr c 0),(5,.str p)],[],.none,x.set l (some (.loop .busy none (bG Tryd.f45) r [9] jk jD cK))⟩) ae ⟨rfl,rfl,trivial⟩ rfl rfl rfl) hk
theorem JK(m:Nat){N:Nat}{h x:J}{r:aN}{t p:List UInt8}{v:I}{st:List (List UInt8)}(hf:jE N h x t v st)(Dd:x.get (N+7)=some (.loop .ready none (bG Tryd.f45) r [9] jk jD (N+6)))(hm:aS.Mod r [(4,.ptr (N+2) 0)])(a8:p.length<=50000)(bW:st.length<=60000):
  (∃bq v' cD,Y (m+3) (.b7 (N+7)) [.str p] x=.ret (.bool true) (cD.set (N+7) (some (.loop .ready none (bG Tryd.f45) r [9] jk jD (N+6))))/\jE N h cD t v' bq/\(∀rest,fold st (p::rest)=fold bq rest)/\bq.length<=st.length+1)\/
  (∃cD,Y (m+3) (.b7 (N+7)) [.str p] x=.bu kQ cD/\jE N h cD t v st/\∀rest,fold st (p::rest)=none):=by
 have aP:Y (m+3) (.b7 (N+7)) [.str p] x=mj al (Y (m+2)) (N+7) [.str p] x:=rfl
 have iX:=hf.zY (some (.loop .busy none (bG Tryd.f45) r [9] jk jD (N+6)))
 have xi:(x.set (N+7) (some (.loop .busy none (bG Tryd.f45) r [9] jk jD (N+6)))).get (N+7)=some (.loop .busy none (bG Tryd.f45) r [9] jk jD (N+6)):=by rw[J.cL,if_pos rfl]
 have xj:=λ(e:aU) (Γ:Env) (q:az) (cD:J)=>@Tu (Y (m+2)) (N+7) (N+2) (N+6) _ p x cD r e Γ q rfl Dd hm
 generalize A3:x.set (N+7) (some (.loop .busy none (bG Tryd.f45) r [9] jk jD (N+6)))=l1 at iX xi xj
 rw[aP]
 have same:∀Γ q,aZ al Tryd.f45 (some (N+7)) (Y (m+2)) [1,1,1,0,1,0,1] ⟨[(5,.str p),(4,.ptr (N+2) 0)],[],.none,l1⟩ .nrm ⟨Γ,[],q,l1⟩->(∀rest,fold st (p::rest)=fold st rest)->
   (∃bq v' cD,mj al (Y (m+2)) (N+7) [.str p] x=.ret (.bool true) (cD.set (N+7) (some (.loop .ready none (bG Tryd.f45) r [9] jk jD (N+6))))/\jE N h cD t v' bq/\(∀rest,fold st (p::rest)=fold bq rest)/\bq.length<=st.length+1):=λΓ q aj px=>
  ⟨st,v,l1,xj _ _ _ _ aj xi,iX,px,by omega⟩
 have bu:∀Γ q,aZ al Tryd.f45 (some (N+7)) (Y (m+2)) [1,1,1,0,1,0,1] ⟨[(5,.str p),(4,.ptr (N+2) 0)],[],.none,l1⟩ (.bu kQ) ⟨Γ,[],q,l1⟩->(∀rest,fold st (p::rest)=none)->
   (∃cD,mj al (Y (m+2)) (N+7) [.str p] x=.bu kQ cD/\jE N h cD t v st/\∀rest,fold st (p::rest)=none):=λΓ q aj px=>
  ⟨l1,xj _ _ _ _ aj xi,iX,px⟩
 by_cases aA:p=[]
 · subst aA
   exact .inl (same _ _ (Tc _ _ _ _) λrest=>by simp[fold])
 by_cases h1:p=[46]
 · subst h1
   exact .inl (same _ _ (Td _ _ _ _) λrest=>by simp[fold])
 by_cases aa:p=[46,46]
 · subst aa
   rcases iX.row with⟨rfl,eX⟩|⟨b,rs,rfl,iK,jO,ev,iF⟩
   · have xk:st=[]:=by simpa using eX
     subst xk
     exact .inr (bu _ _ (Te _ _ _ _ (kd iX.nS) (uE (m+1) _)) λrest=>by simp[fold])
   · have sY:(st.map I.str).length=st.length:=by simp
     simp only[sY] at iX bu⊢
     by_cases eX:st=[]
     · subst eX
       exact .inr (bu _ _ (Tf _ _ _ b 0 _ (kd iX.nS) (uE (m+1) _)) λrest=>by simp[fold])
     · have ni:0<st.length:=by cases st<;>simp at eX⊢
       have DC:Y (m+2) (.fn 58) [.bool (eC (Int.ofNat 0) (Int.ofNat st.length))] l1=.ret (.aF []) l1:=by rw[kH ni];exact DA (m+1) _
       have AV:=r5 (y:=.slice b 0 (st.length-1) (.aH 1)) rfl iX.nS
       have aj:=Tg (Y (m+2)) (N+7) (N+2) b st.length (st.length-1) l1 _ (kd iX.nS) DC (Js ni (by omega)) (Jt ni) AV
       refine .inl ⟨st.dropLast,.slice b 0 (st.length-1) (.aH 1),_,xj _ _ _ _ aj (by rw[J.cL,if_neg (by omega)];exact xi),iX.JJ (Ext.refl _ _) ?_ ?_,λrest=>by simp[fold,eX],by simp;omega⟩
       · refine .inr ⟨b,.str (st.getLast eX)::rs,by simp,?_,jO,ev,by rw[List.all_cons,iF];rfl⟩
         rw[iK]
         have:st.map I.str=st.dropLast.map I.str++[.str (st.getLast eX)]:=by
          conv=>lhs;rw[<-List.dropLast_concat_getLast eX]
          simp
         rw[this];simp
       · exactλy aP=>hf.zX y ((List.dropLast_sublist _).subset aP)
 · have nT:=Sl m p l1 a8
   cases ad:fo p with
   |false=>
    rw[ad] at nT
    exact .inr (bu _ _ (Th _ _ _ p l1 (jj aA) (jj h1) (jj aa) nT (uE (m+1) _)) λrest=>by simp[fold,aA,h1,aa,ad])
   |true=>
    rw[ad] at nT
    obtain⟨v',cH,aJ,nt,uF⟩:=zQ (B:=N+8) (x:=p) iX.n_ (by simp;omega) (zR st) iX.row
    have Tv:cH.get (N+2)=some (ay [v] 35):=(uF.get _ (by omega)).trans iX.nS
    have Tw:=(uF.get (N+7) (by omega)).trans xi
    rcases nt with⟨_,Tx⟩|⟨b,rs,rfl,iK,jO,ev,iF⟩
    · simp at Tx
    · have aj:=Ti (Y (m+2)) (N+7) (N+2) b _ v p l1 cH _ (jj aA) (jj h1) (jj aa) nT (DA (m+1) _) (kd iX.nS) aJ (r5 rfl Tv)
      refine .inl ⟨st++[p],_,_,xj _ _ _ _ aj (by rw[J.cL,if_neg (by omega)];exact Tw),iX.JJ uF (.inr ⟨b,rs,by simp,by simpa using iK,jO,ev,iF⟩) ?_,λrest=>by simp[fold,aA,h1,aa,ad],by simp⟩
      intro y aP
      rcases List.mem_append.1 aP with aP|aP
      · exact hf.zX y aP
      · simp at aP;subst aP;exact ad
theorem JL:jX al 9=some false/\jX al 34=some false:=⟨by kernel_rfl,by kernel_rfl⟩
theorem JM(N:Nat)(x:List UInt8)(k:Nat)(r:aN)(h:J)(hm:aS.Mod r [(2,.ptr N 0),(3,.ptr (N+1) 0)])(aJ:h.get N=some (ay [.str x] 9))(he:h.get (N+1)=some (ay [ai k] 34)):
  na al (bG Tryd.f45) Tryd.f45 r h=some (.aF [.str x,ai k]):=by
 refine tS hm ?_
 have av:Tryd.f45.results.toList=[.cell 2 9,.cell 3 34]:=by kernel_rfl
 have au:Nat.testBit (bG Tryd.f45) 2=true:=by kernel_rfl
 have bm:Nat.testBit (bG Tryd.f45) 3=true:=by kernel_rfl
 have cN:c4 2 [(2,I.ptr N 0),(3,I.ptr (N+1) 0)]=some (.ptr N 0):=rfl
 have fE:c4 3 [(2,I.ptr N 0),(3,I.ptr (N+1) 0)]=some (.ptr (N+1) 0):=rfl
 simp only[hL,av,lK,jP,au,bm,JL.1,JL.2,cN,fE,kd aJ,kd he]
theorem Ty(call:cJ)(N:Nat)(h:J):s_ al Tryd.f56 none (jH al call Tryd.f56 [.ptr N 0,.ptr (N+1) 0] .none h)=some (none,h):=by
 obtain⟨r,h1,aa⟩:=Tr call N (N+1) h _ (tR [.ptr N 0,.ptr (N+1) 0])
 have ae:Tryd.f56.body=some (c5 Tryd.f56):=by kernel_rfl
 have hle:Nat.ble ([.ptr N 0,.ptr (N+1) 0]:List I).length Tryd.f56.ntmps=true:=by kernel_rfl
 have eQ:na al (bG Tryd.f56) Tryd.f56 r h=some (.aF []):=tS aa (by kernel_rfl)
 simp only[aS.sub] at h1
 simp only[jH,ae,hle,h1,s_,eQ,q6]
theorem Tz(call:cJ)(N:Nat)(h:J){x:List UInt8}{k:Nat}(aJ:h.get N=some (ay [.str x] 9))(he:h.get (N+1)=some (ay [ai k] 34)):
  ∃ah,s_ al Tryd.f56 (some kQ) (jH al call Tryd.f56 [.ptr N 0,.ptr (N+1) 0] (.act kQ) h)=some (none,ah)/\ah.get N=some (ay [.str []] 9)/\ah.get (N+1)=some (ay [ai 6] 34)/\Ext N h ah:=by
 have s1:=r5 (y:=.str []) rfl aJ
 have o4:(h.set N (some (ay [.str []] 9))).get (N+1)=some (ay [ai k] 34):=by rw[J.cL,if_neg (by omega)];exact he
 have s2:=r5 (y:=ai 6) rfl o4
 obtain⟨r,h1,aa⟩:=Ts call N (N+1) h _ _ s1 s2 _ (tR [.ptr N 0,.ptr (N+1) 0])
 have ae:Tryd.f56.body=some (c5 Tryd.f56):=by kernel_rfl
 have hle:Nat.ble ([.ptr N 0,.ptr (N+1) 0]:List I).length Tryd.f56.ntmps=true:=by kernel_rfl
 have eQ:∀h,na al (bG Tryd.f56) Tryd.f56 r h=some (.aF []):=λh=>tS aa (by kernel_rfl)
 simp only[aS.sub] at h1
 refine⟨(h.set N (some (ay [.str []] 9))).set (N+1) (some (ay [ai 6] 34)),?_,?_,?_,(Ext.set (Nat.le_refl _) _).trans (Nat.le_refl _) (Ext.set (Nat.le_succ _) _)⟩
 · have ft:cX al (bG Tryd.f56) none call (c5 Tryd.f56) (m_ 0 [.ptr N 0,.ptr (N+1) 0] .leaf) [] (.act kQ) h=_:=h1
   simp only[jH,ae,hle,ft,s_,eQ,q6]
 · rw[J.cL,if_neg (by omega),J.cL,if_pos rfl]
 · rw[J.cL,if_pos rfl]
theorem TA(call:cJ)(N k:Nat)(x:List UInt8)(r:aN)(q:az)(h:J)(hm:aS.Mod r [(2,.ptr N 0),(3,.ptr (N+1) 0)])(ak:h.get (N+6)=some (.defrd (some [])))(aJ:h.get N=some (ay [.str x] 9))(he:h.get (N+1)=some (ay [ai k] 34)):
  mi al call Tryd.f45 (.ok .ret r [.collected (N+6),.call 56 [.ptr N 0,.ptr (N+1) 0]] q h)=.ret (.aF [.str x,ai k]) (h.set (N+6) (some (.defrd none))):=by
 have aj:=JM N x k r (h.set (N+6) (some (.defrd none))) hm (by rw[J.cL,if_neg (by omega)];exact aJ) (by rw[J.cL,if_neg (by omega)];exact he)
 have yC:=Ty call N (h.set (N+6) (some (.defrd none)))
 simp only[mi,ht,ak,List.nil_append,Tryd.func56,pI,yC,aj]
theorem JN(call:cJ)(N k:Nat)(x:List UInt8)(r:aN)(q:az)(h:J)(hm:aS.Mod r [(2,.ptr N 0),(3,.ptr (N+1) 0)])(ak:h.get (N+6)=some (.defrd (some [])))(aJ:h.get N=some (ay [.str x] 9))(he:h.get (N+1)=some (ay [ai k] 34)):
  ∃ah,mi al call Tryd.f45 (.ok (.bu kQ) r [.collected (N+6),.call 56 [.ptr N 0,.ptr (N+1) 0]] q h)=.ret (.aF [.str [],ai 6]) ah/\Ext N h ah:=by
 obtain⟨ah,d1,d2,d3,d4⟩:=Tz call N (h.set (N+6) (some (.defrd none))) (x:=x) (k:=k) (by rw[J.cL,if_neg (by omega)];exact aJ) (by rw[J.cL,if_neg (by omega)];exact he)
 have aj:=JM N [] 6 r ah hm d2 d3
 refine⟨ah,?_,(Ext.set (by omega) _).trans (Nat.le_refl _) d4⟩
 simp only[mi,ht,ak,List.nil_append,Tryd.func56,pI,d1,aj]
theorem TB(m:Nat)(s:List UInt8)(h:J)(ad:s.length<=50000):
  ∃ah,Y (m+8) (.fn 45) [.str s] h=.ret (match eh s with|some p=>.aF [.str p,ai 0]|none=>.aF [.str [],ai 6]) ah/\Ext h.n h ah:=by
 have XT:=Ds s []
 let N:=h.n
 let h1:=(h.push (ay [.str []] 9)).push (ay [ai 0] 34)
 let aa:=h1.push (ay [.bn] 35)
 let ao:=lB s aa
 have bm:Ext h.n h ao:=((((((Ext.push (Nat.le_refl _) _).trans (Nat.le_refl _) (Ext.push (by simp) _)).trans (Nat.le_refl _) (Ext.push (by simp[h1];omega) _)).trans (Nat.le_refl _) (Ext.push (by simp[aa,h1];omega) _)).trans (Nat.le_refl _) (Ext.push (by simp[aa,h1];omega) _)).trans (Nat.le_refl _) (Ext.push (by simp[aa,h1];omega) _))
 have w:WF al Tryd.f45 none (Y (m+7)) [] (λe r d q ah=>∃fu,mi al (Y (m+7)) Tryd.f45 (.ok e r d q ah)=.ret (match eh s with|some p=>.aF [.str p,ai 0]|none=>.aF [.str [],ai 6]) fu/\Ext h.n h fu) (m_ 0 [.str s] .leaf) [] .none h:=by
  refine WF.seq (p:=[]) (by kernel_rfl) (W.of (S8 (Y (m+7)) s h) (tR [.str s]) λba m1=>.inl ⟨rfl,?_⟩)
  refine WF.seq (p:=[1]) (by kernel_rfl) (W.of (S9 (Y (m+7)) s h1 N (N+1)) m1 λbH m2=>.inl ⟨rfl,?_⟩)
  refine WF.seq (p:=[1,1]) (by kernel_rfl) (W.of (S_ (Y (m+7)) s h1 [.call 56 [.ptr N 0,.ptr (N+1) 0]] N (N+1)) m2 λdv m3=>.inl ⟨rfl,?_⟩)
  refine WF.seq (p:=[1,1,1]) (by kernel_rfl) ?_
  refine WF.seq (p:=[1,1,1,0]) (by kernel_rfl) (W.of (Ta (Y (m+7)) s _ aa ao [.call 56 [.ptr N 0,.ptr (N+1) 0]] N (N+1) (N+2) (Sx (m+5) s aa)) m3 λdm m4=>.inl ⟨rfl,?_⟩)
  refine WF.block (p:=[1,1,1,0,1]) (id:=0) (by kernel_rfl) ?_
  refine WF.range (p:=[1,1,1,0,1,0]) (t:=8) (ps:=[9]) (by kernel_rfl) (by kernel_rfl) (hf:=rfl) (hm:=m4) ?_
  let mQ:=(ao.push (.defrd (some []))).push (.loop .ready none (bG Tryd.f45) dm [9] jk jD (N+6))
  have i0:jE N h mQ s .bn []:=by
   refine⟨?_,.inl ⟨rfl,rfl⟩,λy aP=>by simp at aP,?_,?_,?_,?_,?_,?_,?_,?_⟩
   · simp only[mQ,ao,lB,aa,h1,N,J.gC,J.nY];grind
   · simp only[mQ,ao,lB,aa,h1,N,J.gC,J.nY];grind
   · simp only[mQ,ao,lB,aa,h1,N,J.gC,J.nY];grind
   · simp only[mQ,ao,lB,aa,h1,N,J.gC,J.nY];grind
   · simp only[mQ,ao,lB,aa,h1,N,J.gC,J.nY];grind
   · simp only[mQ,ao,lB,aa,h1,N,J.gC,J.nY];grind
   · simp only[mQ,ao,lB,aa,h1,N,J.gC,J.nY];grind
   · exact bm.trans (Nat.le_refl _) ((Ext.push (by simp[ao,lB,aa,h1];omega) _).trans (Nat.le_refl _) (Ext.push (by simp[ao,lB,aa,h1];omega) _))
   · simp[mQ,ao,lB,aa,h1,N]
  have iV:mQ.get (N+7)=some (.loop .ready none (bG Tryd.f45) dm [9] jk jD (N+6)):=by
   simp only[mQ,ao,lB,aa,h1,N,J.gC,J.nY];grind
  have JO:aS.Mod dm [(4,.ptr (N+2) 0)]:=m4.sub ⟨rfl,trivial⟩
  have kM:aS.Mod dm [(2,.ptr N 0),(3,.ptr (N+1) 0)]:=m4.sub ⟨rfl,rfl,trivial⟩
  let xl:Option b8:=some (.loop .ready none (bG Tryd.f45) dm [9] jk jD (N+6))
  have sp:=SI (m+6) (N+7) (N+3)
   (λaV x=>∃v st,jE N h x aV v st/\x.get (N+7)=xl/\fold [] (di [] s)=fold st (di [] aV)/\st.length+(di [] aV).length<=(di [] s).length/\aV.length<=50000)
   (λx=>∃t v st,jE N h x t v st/\x.get (N+7)=xl/\fold [] (di [] s)=some st)
   (λw x=>w=kQ/\fold [] (di [] s)=none/\∃t v st,jE N h x t v st)
   (λs h=>Sv (m+2) s h) (λaV x ag=>by
    obtain⟨v,st,hf,_⟩:=ag
    exact⟨kd hf.xg,kd hf.sep,kd hf.num⟩)
   (λaV p t x ag dg a8=>by
    obtain⟨v,st,hf,ar,px,DD,hlen⟩:=ag
    have bx:p.length<=50000/\t.length<=50000:=by
     rw[dg] at hlen;simp at hlen;omega
    rcases JK (m+3) hf ar JO bx.1 (by omega) with⟨bq,v',cD,c1,c2,c3,gG⟩|⟨cD,c1,c2,c3⟩
    · have pq:=c2.zY xl
      refine .inl ⟨_,_,c1,kd pq.xg,kd pq.sep,r5 rfl pq.xg,v',bq,pq.Tt t,?_,?_,?_,bx.2⟩
      · rw[J.cL,if_neg (by omega),J.cL,if_pos rfl]
      · rw[px,a8,c3]
      · rw[a8] at DD;simp at DD;omega
    · exact .inr (.inr ⟨kQ,cD,c1,rfl,by rw[px,a8,c3],aV,v,st,c2⟩))
   (λaV x ag a8=>by
    obtain⟨v,st,hf,ar,px,DD,hlen⟩:=ag
    rcases JK (m+3) hf ar JO hlen (by omega) with⟨bq,v',cD,c1,c2,c3,gG⟩|⟨cD,c1,c2,c3⟩
    · refine .inl ⟨_,_,c1,aV,v',bq,c2.zY xl,by rw[J.cL,if_pos rfl],?_⟩
      rw[px,a8,c3];rfl
    · exact .inr ⟨kQ,cD,c1,rfl,by rw[px,a8,c3],aV,v,st,c2⟩) s mQ ad ⟨.bn,[],i0,iV,rfl,by simp,ad⟩
  rcases sp with⟨x,bS,t,v,st,z2,z3,z4⟩|⟨_,x,bS,rfl,z3,t,v,st,z2⟩
  · have sA:mZ (N+7) dm [.collected (N+6),.call 56 [.ptr N 0,.ptr (N+1) 0]] .none (.ret (.aF []) x)=.ok .nrm dm [.collected (N+6),.call 56 [.ptr N 0,.ptr (N+1) 0]] .none (x.set (N+7) (some (.loop .exhausted none (bG Tryd.f45) dm [9] jk jD (N+6)))):=by
      simp only[mZ,z3,xl]
    refine⟨.nrm,_,(congrArg (mZ (N+7) dm [.collected (N+6),.call 56 [.ptr N 0,.ptr (N+1) 0]] .none) bS).trans sA,.inr ⟨by simp,.inl ⟨rfl,?_⟩⟩⟩
    have jl:=z2.zY (some (.loop .exhausted none (bG Tryd.f45) dm [9] jk jD (N+6)))
    generalize x.set (N+7) (some (.loop .exhausted none (bG Tryd.f45) dm [9] jk jD (N+6)))=y at jl
    have JP:aS.Mod dm [(2,.ptr N 0),(3,.ptr (N+1) 0),(4,.ptr (N+2) 0)]:=m4.sub ⟨rfl,rfl,rfl,trivial⟩
    have no:eh s=none->(∃q,aZ al Tryd.f45 none (Y (m+7)) [1,1,1,1,0] ⟨[(2,.ptr N 0),(3,.ptr (N+1) 0),(4,.ptr (N+2) 0)],[.collected (N+6),.call 56 [.ptr N 0,.ptr (N+1) 0]],.none,y⟩ (.bu kQ) ⟨[(2,.ptr N 0),(3,.ptr (N+1) 0)],[.collected (N+6),.call 56 [.ptr N 0,.ptr (N+1) 0]],q,y⟩)->
      WF al Tryd.f45 none (Y (m+7)) [1,1,1,1] (λe r d q ah=>∃fu,mi al (Y (m+7)) Tryd.f45 (.ok e r d q ah)=.ret (match eh s with|some p=>.aF [.str p,ai 0]|none=>.aF [.str [],ai 6]) fu/\Ext h.n h fu) dm [.collected (N+6),.call 56 [.ptr N 0,.ptr (N+1) 0]] .none y:=by
     intro dt aj
     obtain⟨q,aj⟩:=aj
     refine WF.seq (p:=[1,1,1,1]) (by kernel_rfl) (W.of aj JP λhN m5=>.inr ⟨by simp,?_⟩)
     obtain⟨ah,dI,dQ⟩:=JN (Y (m+7)) N 0 [] hN q y m5 jl.mf jl.DB jl.err
     rw[dt];exact⟨ah,dI,jl.ext.trans (Nat.le_refl _) dQ⟩
    rcases jl.row with⟨rfl,eX⟩|⟨b,rs,rfl,iK,jO,ev,iF⟩
    · have xk:st=[]:=by simpa using eX
      subst xk
      exact no (by simp only[eh,z4]) ⟨_,Tm (Y (m+7)) N (N+1) (N+2) _ y (kd jl.nS) (uE (m+6) y)⟩
    · have sY:(st.map I.str).length=st.length:=by simp
      rw[sY] at jl
      cases st with
      |nil=>exact no (by simp only[eh,z4]) ⟨_,To (Y (m+7)) N (N+1) (N+2) b 0 _ y (kd jl.nS) (nD (by omega)) (uE (m+6) y)⟩
      |cons x l=>
       by_cases cZ:l.length<8
       · have dt:eh s=some (hn x l):=by simp only[eh,z4,if_pos cZ]
         have DC:Y (m+7) (.fn 58) [.bool (hp (Int.ofNat (x::l).length) (Int.ofNat 8))] y=.ret (.aF []) y:=by
          exact(congrArg (λb=>Y (m+7) (.fn 58) [.bool b] y) (G0 (by simp;omega))).trans (DA (m+6) y)
         refine WF.seq (p:=[1,1,1,1]) (by kernel_rfl) (W.of (Tp (Y (m+7)) N (N+1) (N+2) b (x::l).length _ y (kd jl.nS) (kH (by simp)) DC) JP λhN m5=>.inl ⟨rfl,?_⟩)
         obtain⟨ah,h9,lM⟩:=S3 (m+3) x l b rs .aH 0 0 9 y iK ev (by simp;omega) (λy aP=>by have:=xb (jl.zX y aP);omega) (λe=>by have aA:=jl.zX x (by simp);rw[e] at aA;simp[fo] at aA)
         have BB:=jl.n_
         have x5:ah.get N=some (ay [.str []] 9):=(lM.get N (by omega)).trans jl.DB
         have ge:ah.get (N+1)=some (ay [ai 0] 34):=(lM.get _ (by omega)).trans jl.err
         have gd:ah.get (N+6)=some (.defrd (some [])):=(lM.get _ (by omega)).trans jl.mf
         have TC:(ah.set N (some (ay [.str (hn x l)] 9))).get (N+1)=some (ay [ai 0] 34):=by rw[J.cL,if_neg (by omega)];exact ge
         refine W.of (Tq (Y (m+7)) N (N+1) (N+2) b (x::l).length _ y (hn x l) ah _ _ (kd jl.nS) h9 (r5 rfl x5) (r5 rfl TC)) m5 λDk m6=>?_
         rw[dt]
         refine⟨_,TA (Y (m+7)) N 0 (hn x l) Dk _ _ m6 ?_ ?_ ?_,?_⟩
         · rw[J.cL,if_neg (by omega),J.cL,if_neg (by omega)];exact gd
         · rw[J.cL,if_neg (by omega),J.cL,if_pos rfl]
         · rw[J.cL,if_pos rfl]
         · exact(((jl.ext.trans (by omega) lM).trans (Nat.le_refl _) (Ext.set (Nat.le_refl _) _)).trans (Nat.le_refl _) (Ext.set (by omega) _)).trans (Nat.le_refl _) (Ext.set (by omega) _)
       · have dt:eh s=none:=by simp only[eh,z4,if_neg cZ]
         refine no dt ⟨_,Tn (Y (m+7)) N (N+1) (N+2) b (x::l).length _ y (kd jl.nS) (kH (by simp)) ?_⟩
         exact(congrArg (λb=>Y (m+7) (.fn 58) [.bool b] y) (G1 (by simp;omega))).trans (uE (m+6) y)
  · have sA:mZ (N+7) dm [.collected (N+6),.call 56 [.ptr N 0,.ptr (N+1) 0]] .none (.bu kQ x)=.ok (.bu kQ) dm [.collected (N+6),.call 56 [.ptr N 0,.ptr (N+1) 0]] .none x:=rfl
    refine⟨.bu kQ,_,(congrArg (mZ (N+7) dm [.collected (N+6),.call 56 [.ptr N 0,.ptr (N+1) 0]] .none) bS).trans sA,.inr ⟨by simp,.inr ⟨by simp,?_⟩⟩⟩
    have dt:eh s=none:=by simp only[eh,z3]
    obtain⟨ah,dI,dQ⟩:=JN (Y (m+7)) N 0 [] dm .none x kM z2.mf z2.DB z2.err
    rw[dt]
    exact⟨ah,dI,z2.ext.trans (Nat.le_refl _) dQ⟩
 obtain⟨e,r,d,q,ah,b5,fu,bQ,j6⟩:=w
 exact⟨fu,OD (intr:=fl) (n:=m+7) (args:=[.str s]) Tryd.func45 (by kernel_rfl) rfl (by kernel_rfl) ⟨e,r,d,q,ah,b5,bQ⟩,j6⟩
theorem z1:uy eh:=λn s h aC ad=>by
 obtain⟨g,c,x⟩:=TB (n-8) s h (by omega)
 rw[show n-8+8=n by omega] at c
 refine⟨g,c.trans ?_,x⟩
 cases eh s<;>rfl
end Go.Proofs.hD
