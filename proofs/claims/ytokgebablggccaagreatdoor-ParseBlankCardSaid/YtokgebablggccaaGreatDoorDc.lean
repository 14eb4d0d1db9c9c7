/-
  PROVED HERE: contracts of functions (Dc). No condition beside each statement's own.
-/
import Derived.Test.YtokgebablggccaaGreatDoorDa
import Derived.Test.YtokgebablggccaaGreatDoorSxb
set_option linter.unusedVariables false
set_option linter.unusedSimpArgs false
set_option maxRecDepth 100000
set_option maxHeartbeats 1000000
namespace Go.Proofs.iI
open Go aJ Go.Proofs lp
variable {B a b i it:Nat}{dj o w:aa}{h x y:I}{s:List UInt8}
variable {Q:cl->bD->Prop} {R:a8->Prop} (call:e0)
theorem adl(m b B r:Nat)(h:I)(w:List UInt8)(ag:qy B b h w)(aA:w.length+4<=1000000000)(aj:r<=1114111)(aW:l_ r=true):∃k ay,C (m+4) (.fn 113) [.ptr b 0,.int .i32 (Int.ofNat r)] h=.ret (.aF [ad k,.c3]) ay/\qy B b ay (w++dT r)/\bU b B h ay:=by
 obtain⟨J,v,a9,al,bd,bn,e2⟩:=R7 (m+1) b B h w ag
 obtain⟨_,_,_,_,_,G1,LI,_⟩:=ag
 obtain⟨c,ae,c8,c9,gf⟩:=adg (m+1) r B v w J (by omega) bd aA aj aW
 obtain⟨aw,eU,bO⟩:=R_ G1 LI al bn e2 gf c9 (by simp[(Sa r).2])
 have aQ:=(Sa r).1
 refine⟨(dT r).length,_,?_,eU,bO⟩
 have fin:∀{k:Nat},a0 an Tryz.f113 none (C (m+3)) [] ⟨[(0,.ptr b 0),(1,.int .i32 (Int.ofNat r))],[],.none,h⟩ .ret ⟨[(4,ad k),(5,.c3)],[],.none,ae.set b (some (aD [.ptr b 0,.slice c 0 (w.length+(dT r).length) (.aX 1)] 175))⟩->C (m+4) (.fn 113) [.ptr b 0,.int .i32 (Int.ofNat r)] h=.ret (.aF [ad k,.c3]) (ae.set b (some (aD [.ptr b 0,.slice c 0 (w.length+(dT r).length) (.aX 1)] 175))):=λaj=>
  eI (intr:=eD) (n:=m+3) (args:=[.ptr b 0,.int .i32 (Int.ofNat r)]) Tryz.func113 aj (.inl rfl) (by kernel_rfl)
 have st:aJ.storeCells ae b (0+1) [.slice c 0 (w.length+(dT r).length) (.aX 1)]=some (ae.set b (some (aD [.ptr b 0,.slice c 0 (w.length+(dT r).length) (.aX 1)] 175))):=cy aw rfl rfl
 have j8:aC (ae.set b (some (aD [.ptr b 0,.slice c 0 (w.length+(dT r).length) (.aX 1)] 175))) b (0+1)=some (.slice c 0 (w.length+(dT r).length) (.aX 1)):=aN (dz rfl) rfl
 rcases bd with⟨rfl,rfl⟩|⟨cI,rest,rfl,_⟩
 · have ch:arith BinOp.sub IntKind.i64 (Int.ofNat (([]:List UInt8).length+(dT r).length)) (Int.ofNat 0)=some (ad (dT r).length):=by
     have:=AD (i:=([]:List UInt8).length+(dT r).length) (j:=0) (by omega) (by simp;omega)
     rw[this];simp
   exact fin (abO (C (m+3)) b c _ r h ae J _ _ _ _ _ _ a9 (aN al rfl) c8 st j8 ch)
 · have ch:arith BinOp.sub IntKind.i64 (Int.ofNat (w.length+(dT r).length)) (Int.ofNat w.length)=some (ad (dT r).length):=by
     have:=AD (i:=w.length+(dT r).length) (j:=w.length) (by omega) (by omega)
     rw[this,Nat.add_sub_cancel_left]
   exact fin (abP (C (m+3)) b c _ cI _ r h ae J _ _ _ _ _ _ a9 (aN al rfl) c8 st j8 ch)
theorem Ba{pos:Nat}(aB:h.get it=some (.fp [] pos)):kh h (.ptr it 0) true=some (.aF [.bool false],h):=by simp only[kh,aB]
theorem w9{pos:Nat}{b:UInt8}{t:List UInt8}(aB:h.get it=some (.fp (b::t) pos)):kh h (.ptr it 0) true=some (.aF [.bool true,ad pos,.int .i32 (Int.ofNat (dS (b::t)).1)],h.set it (some (.fp ((b::t).drop (dS (b::t)).2) (pos+(dS (b::t)).2)))):=by
 simp only[kh,aB,aa5,om]
theorem adm(m r:Nat)(h:I)(aW:l_ r=true):C (m+1) (.fn 127) [.int .i32 (Int.ofNat r)] h=.ret (.bool true) h:=by
 have adf:=(qt r).1 aW
 by_cases J:r<55296
 · exact eI (intr:=eD) (n:=m) (args:=[.int .i32 (Int.ofNat r)]) Tryz.func127 (abW (C m) r h (ib J)) (.inl rfl) (by kernel_rfl)
 · exact eI (intr:=eD) (n:=m) (args:=[.int .i32 (Int.ofNat r)]) Tryz.func127 (abX (C m) r h (iR J) (ib (by omega)) (mD (by omega))) (.inl rfl) (by kernel_rfl)
theorem adn{r:Nat}(aW:l_ r=true):(Utf8.encode (Int.ofNat r)).data.toList=dT r:=by
 have ado:Utf8.valid (Int.ofNat r)=true:=aW
 have e:(if Utf8.valid (Int.ofNat r)=true then(Int.ofNat r).toNat else Utf8.runeError)=r:=by rw[if_pos ado];rfl
 unfold Utf8.encode
 rw[e]
 unfold dT
 by_cases J:r<128
 · simp only[if_pos J]
 · by_cases ae:r<2048
   · simp only[if_neg J,if_pos ae]
   · by_cases aq:r<65536
     · simp only[if_neg J,if_neg ae,if_pos aq]
     · simp only[if_neg J,if_neg ae,if_neg aq]
def rB(r:Nat):Int:=if r=34 then 0 else if r=92 then 1 else if r=110 then 2 else-1
theorem adp(r:Nat):kZ r [34,92,110] 0=rB r:=by
 have beq (a:Nat):Nat.beq a r=decide (r=a):=by
  cases ab:Nat.beq a r with
  |true=>simp[Nat.eq_of_beq_eq_true ab]
  |false=>
   have:¬r=a:=λe=>by subst e;rw[Nat.beq_refl] at ab;cases ab
   simp[this]
 have aG:(34:UInt8).toNat=34:=rfl
 have aE:(92:UInt8).toNat=92:=rfl
 have br:(110:UInt8).toNat=110:=rfl
 simp only[kZ,aG,aE,br,beq,rB]
 by_cases J:r=34
 · simp[J]
 · by_cases ae:r=92
   · simp[ae]
   · by_cases aq:r=110
     · simp[aq]
     · simp[J,ae,aq]
theorem adq(m r:Nat)(h:I)(aj:r<=1114111)(aW:l_ r=true):∃ay,C (m+4) (.fn 99) [.str [34,92,110],.int .i32 (Int.ofNat r)] h=.ret (.int .i64 (rB r)) ay/\Ext h.n h ay:=by
 have fin:∀{ay:I} {x:Int},a0 an Tryz.f99 none (C (m+3)) [] ⟨[(0,.str [34,92,110]),(1,.int .i32 (Int.ofNat r))],[],.none,h⟩ .ret ⟨[(4,.int .i64 x)],[],.none,ay⟩->C (m+4) (.fn 99) [.str [34,92,110],.int .i32 (Int.ofNat r)] h=.ret (.int .i64 x) ay:=λaj=>
  eI (intr:=eD) (n:=m+3) (args:=[.str [34,92,110],.int .i32 (Int.ofNat r)]) Tryz.func99 aj (.inl rfl) (by kernel_rfl)
 by_cases J:r<128
 · have:=R4 m [34,92,110] (r %256) h (by omega)
   rw[Nat.mod_eq_of_lt (show r<256 by omega),adp] at this
   have ja:=Gr (P:=an) (n:=r) (h:=h) oJ oI
   rw[Nat.mod_eq_of_lt (show r<256 by omega)] at ja
   exact⟨h,fin (RU (C (m+3)) [34,92,110] r r _ h h (ib J) ja this),Ext.refl _ _⟩
 have LS:rB r=-1:=by unfold rB;rw[if_neg (by omega),if_neg (by omega),if_neg (by omega)]
 rw[LS]
 by_cases ae:r=65533
 · subst ae
   obtain⟨H,g1⟩:∃H,H=h.push (.fp [34,92,110] 0):=⟨_,rfl⟩
   have jU:H.get h.n=some (.fp [34,92,110] 0):=by rw[g1];exact dx rfl
   have d1:dS [34,92,110]=(34,1):=by decide
   have d2:dS [92,110]=(92,1):=by decide
   have d3:dS [110]=(110,1):=by decide
   have bn:=w9 jU
   have b6:=w9 (h:=H.set h.n (some (.fp [92,110] 1))) (it:=h.n) (pos:=1) (b:=92) (t:=[110]) (dz rfl)
   have dc:=w9 (h:=(H.set h.n (some (.fp [92,110] 1))).set h.n (some (.fp [110] 2))) (it:=h.n) (pos:=2) (b:=110) (t:=[]) (dz rfl)
   have ct:=Ba (h:=((H.set h.n (some (.fp [92,110] 1))).set h.n (some (.fp [110] 2))).set h.n (some (.fp [] 3))) (it:=h.n) (pos:=3) (dz rfl)
   rw[d1] at bn;rw[d2] at b6;rw[d3] at dc
   have s1:=LA (C (m+3)) [] h.n 0 34 H _ bn (fU (by decide))
   have s2:=LA (C (m+3)) [] h.n 1 92 _ _ b6 (fU (by decide))
   have c4:=LA (C (m+3)) [] h.n 2 110 _ _ dc (fU (by decide))
   have c0:=abZ (C (m+3)) [] h.n _ _ ct
   have ho:=eP.run (p:=[1,0,1,1,1,0,0,1,0]) (by kernel_rfl) (eP.step s1 (eP.step s2 (eP.step c4 (eP.exit (n:=0) c0 (by simp))))) (by omega)
   rw[g1] at ho
   exact⟨_,fin (abY (C (m+3)) [34,92,110] 65533 h _ (iR (by omega)) (lO rfl) (dU.pre (dU.post (Γ2:=[]) ho trivial) ⟨rfl,trivial⟩ rfl rfl rfl)),Gm⟩
 · have m8:∀{g:I},a0 an Tryz.f99 none (C (m+3)) [1,0,1,1,1,1,1,1] ⟨[(0,.str [34,92,110]),(1,.int .i32 (Int.ofNat r)),(183,.bool false)],[],.none,h⟩ .ret ⟨[(4,.int .i64 (-1))],[],.none,g⟩->a0 an Tryz.f99 none (C (m+3)) [] ⟨[(0,.str [34,92,110]),(1,.int .i32 (Int.ofNat r))],[],.none,h⟩ .ret ⟨[(4,.int .i64 (-1))],[],.none,g⟩:=λ{g} ab=>by
     have dt:=aca (C (m+3)) [34,92,110] r h
     rw[show cz r 128=false from iR J] at dt
     have dv:=acb (C (m+3)) [34,92,110] r h
     rw[show dA r 65533=false from fU ae] at dv
     have gD:=acd (C (m+3)) [34,92,110] r h h (adm (m+2) r h aW)
     have gF:=a0.cond (p:=[1,0,1,1,1,1,1]) (t:=183) (x:=false) (by kernel_rfl) (by kernel_rfl) rfl ab
     have bu:=gG [1,0,1,1,1,1] gD gF
     have cI:=a0.cond (p:=[1,0,1,1,1]) (t:=171) (x:=false) (by kernel_rfl) (by kernel_rfl) rfl (dU.pre (st1:=⟨[(0,.str [34,92,110]),(1,.int .i32 (Int.ofNat r)),(171,.bool false)],[],.none,h⟩) bu ⟨rfl,rfl,trivial⟩ rfl rfl rfl)
     have aU:=gG [1,0,1,1] dv cI
     have a9:=a0.cond (p:=[1,0,1]) (t:=160) (x:=false) (by kernel_rfl) (by kernel_rfl) rfl (dU.pre (st1:=⟨[(0,.str [34,92,110]),(1,.int .i32 (Int.ofNat r)),(160,.bool false)],[],.none,h⟩) aU ⟨rfl,rfl,trivial⟩ rfl rfl rfl)
     have aV:=gG [1,0] dt a9
     exact gG [] (ab_ (C (m+3)) [34,92,110] r h) (a0.qc (p:=[1]) (id:=0) (by kernel_rfl) aV (by simp))
   have LU:∀l,dT r=l->df an 21 9 (.int .i32 (Int.ofNat r)) h=.val (.str l) h:=λl e=>by
    rw[aaf oJ A4,adn aW,e]
   have kH:∀(l:List UInt8) (x:Nat),x<256->(∀b∈l,b.toNat<128)->128<=x->∀g,C (m+3) (.fn 126) [.str l,ax x] g=.ret (.int .i64 (-1)) g:=λl x ab aA alI g=>by
    have:=R4 m l x g ab
    have e:∀(l:List UInt8) (i:Nat),(∀b∈l,b.toNat<128)->kZ x l i=-1:=by
     intro l
     induction l with
     |nil=>intro i _;rfl
     |cons b l bM=>
      intro i aA
      have ag:Nat.beq b.toNat x=false:=by
       cases bB:Nat.beq b.toNat x with
       |false=>rfl
       |true=>have:=Nat.eq_of_beq_eq_true bB;have:=aA b (by simp);omega
      simp only[kZ,ag]
      exact bM (i+1) λc ak=>aA c (by simp[ak])
    rw[e l 0 aA] at this
    exact this
   have neq:∀(x y:Nat),x≠y->(!jM (Int.ofNat x) (Int.ofNat y))=true:=λx y adr=>by rw[fU adr];rfl
   have join:∀{t:List UInt8} {k:Nat} {g:I},a0 an Tryz.f99 none (C (m+3)) [1,0,1,1,1,1,1,1,0,0] ⟨[(0,.str [34,92,110]),(1,.int .i32 (Int.ofNat r))],[],.none,h⟩ .nrm ⟨[(0,.str [34,92,110]),(7,.str t)],[],.none,h⟩->
     a0 an Tryz.f99 none (C (m+3)) [1,0,1,1,1,1,1,1,0,1,0] ⟨[(0,.str [34,92,110]),(7,.str t)],[],.none,h⟩ .nrm ⟨[(0,.str [34,92,110]),(7,.str t),(8,ad k)],[],.none,h⟩->
     a0 an Tryz.f99 none (C (m+3)) [1,0,1,1,1,1,1,1,0,1,1,1,1] ⟨[(0,.str [34,92,110]),(7,.str t),(8,ad k),(9,ad k),(10,ad 0)],[],.none,h⟩ .ret ⟨[(4,.int .i64 (-1))],[],.none,g⟩->
     a0 an Tryz.f99 none (C (m+3)) [] ⟨[(0,.str [34,92,110]),(1,.int .i32 (Int.ofNat r))],[],.none,h⟩ .ret ⟨[(4,.int .i64 (-1))],[],.none,g⟩:=λ{t k g} a b c=>by
    refine m8 (a0.scope (p:=[1,0,1,1,1,1,1,1]) (by kernel_rfl) (gG [1,0,1,1,1,1,1,1,0] (dU.pre a ⟨rfl,rfl,trivial⟩ rfl rfl rfl) ?_))
    exact gG [1,0,1,1,1,1,1,1,0,1] b (gG [1,0,1,1,1,1,1,1,0,1,1] (ace (C (m+3)) [34,92,110] t k h) (gG [1,0,1,1,1,1,1,1,0,1,1,1] (acf (C (m+3)) [34,92,110] t k h) c))
   have Sb:∀{t:List UInt8} {k:Nat} {g:I} {av:Env},a0 an Tryz.f99 none (C (m+3)) [1,0,1,1,1,1,1,1,0,1,1,1,1,0,0,0] ⟨[(0,.str [34,92,110]),(7,.str t),(8,ad k),(9,ad k),(10,ad 0)],[],.none,h⟩ .ret (tI av g)->gk 4 av=some (.int .i64 (-1))->
     a0 an Tryz.f99 none (C (m+3)) [1,0,1,1,1,1,1,1,0,1,1,1,1] ⟨[(0,.str [34,92,110]),(7,.str t),(8,ad k),(9,ad k),(10,ad 0)],[],.none,h⟩ .ret ⟨[(4,.int .i64 (-1))],[],.none,g⟩:=λ{t k g av} ab aA=>
    dU.post (AK [1,0,1,1,1,1,1,1,0,1,1,1,1] (a0.qc (p:=[1,0,1,1,1,1,1,1,0,1,1,1,1,0]) (id:=1) (by kernel_rfl) (eP.run (p:=[1,0,1,1,1,1,1,1,0,1,1,1,1,0,0]) (by kernel_rfl) (eP.exit (n:=0) ab (by simp)) (by omega)) (by simp)) (by simp)) ⟨aA,trivial⟩
   have bt:128<=r:=by omega
   by_cases aq:r<2048
   · have e:dT r=[UInt8.ofNat (192+r/64),UInt8.ofNat (128+r %64)]:=by unfold dT;rw[if_neg J,if_pos aq]
     have aE:(UInt8.ofNat (128+r %64)).toNat=128+r %64:=rA (by omega)
     have cI:=ab2 (C (m+3)) 0 (UInt8.ofNat (192+r/64)) (UInt8.ofNat (128+r %64)) h _ 92 _ [110] rfl (tP _ _ _) (neq _ _ (by rw[aE];omega)) (A_ (s:=[34,92,110]) (k:=2) (by decide)) (kH _ _ (uO _) (by decide) (by rw[aE];omega) _)
     exact⟨_,fin (join (ab0 (C (m+3)) r _ _ h (LU _ e)) (ab1 (C (m+3)) r _ _ h) (Sb cI rfl)),Gm⟩
   · by_cases aQ:r<65536
     · have e:dT r=[UInt8.ofNat (224+r/4096),UInt8.ofNat (128+r/64 %64),UInt8.ofNat (128+r %64)]:=by unfold dT;rw[if_neg J,if_neg aq,if_pos aQ]
       have aE:(UInt8.ofNat (128+r %64)).toNat=128+r %64:=rA (by omega)
       have cI:=ab5 (C (m+3)) 0 (UInt8.ofNat (224+r/4096)) (UInt8.ofNat (128+r/64 %64)) (UInt8.ofNat (128+r %64)) h _ 110 _ [] rfl (y6 _ _ _ _) (neq _ _ (by rw[aE];omega)) (A_ (s:=[34,92,110]) (k:=3) (by decide)) (kH _ _ (uO _) (by simp) (by rw[aE];omega) _)
       exact⟨_,fin (join (ab3 (C (m+3)) r _ _ _ h (LU _ e)) (ab4 (C (m+3)) r _ _ _ h) (Sb cI rfl)),Gm⟩
     · have e:dT r=[UInt8.ofNat (240+r/262144),UInt8.ofNat (128+r/4096 %64),UInt8.ofNat (128+r/64 %64),UInt8.ofNat (128+r %64)]:=by unfold dT;rw[if_neg J,if_neg aq,if_neg aQ]
       have hy:=ab8 (C (m+3)) 0 (UInt8.ofNat (240+r/262144)) (UInt8.ofNat (128+r/4096 %64)) (UInt8.ofNat (128+r/64 %64)) (UInt8.ofNat (128+r %64)) h h
       have ho:=a0.block (p:=[1,0,1,1,1,1,1,1,0,1,1,1,1,0]) (id:=1) (by kernel_rfl) (eP.run (p:=[1,0,1,1,1,1,1,1,0,1,1,1,1,0,0]) (by kernel_rfl) (eP.exit (n:=0) hy (by simp)) (by omega))
       exact⟨_,fin (join (ab6 (C (m+3)) r _ _ _ _ h (LU _ e)) (ab7 (C (m+3)) r _ _ _ _ h) (gG [1,0,1,1,1,1,1,1,0,1,1,1,1] (dU.post (Γ2:=[]) ho trivial) (ab9 (C (m+3)) h))),Ext.refl _ _⟩
theorem ads(a b:Nat):jM (Int.ofNat a) (Int.ofNat b)=(a==b):=by
 by_cases h:a=b
 · rw[lO h,h];simp
 · rw[fU h];simp[h]
theorem Sc:∀(l:List UInt8) (j:Nat) (h:j<l.length),nth j (cC l)=some (ax (l[j]).toNat)
 |[],j,h=>by simp at h
 |b::l,0,h=>rfl
 |b::l,j+1,h=>by
  have:=Sc l j (by simpa using h)
  simpa[cC,nth] using this
theorem Sd(m:Nat)(b:UInt8)(h:I):C (m+1) (.fn 73) [ax b.toNat] h=.ret (.bool (ie b)) h:=by
 have fin:∀{x:Bool},a0 an Tryz.f73 none (C m) [] ⟨[(0,ax b.toNat)],[],.none,h⟩ .ret ⟨[(2,.bool x)],[],.none,h⟩->C (m+1) (.fn 73) [ax b.toNat] h=.ret (.bool x) h:=λaj=>
  eI (intr:=eD) (n:=m) (args:=[ax b.toNat]) Tryz.func73 aj (.inl rfl) (by kernel_rfl)
 have LV:=ads b.toNat 95
 by_cases J:97<=b.toNat
 · by_cases ae:b.toNat<=122
   · have e:ie b=true:=by simp[ie,J,ae]
     rw[e];exact fin (acv (C m) b.toNat h (mD J) (mD ae))
   · have e:ie b=(b.toNat==95):=by
       have aq:¬b.toNat<=90:=by omega
       simp[ie,J,ae,aq]
     rw[e,<-LV];exact fin (acw (C m) b.toNat h (mD J) (l6 ae) (mD (by omega)) (l6 (by omega)))
 · by_cases ae:65<=b.toNat
   · by_cases aq:b.toNat<=90
     · have e:ie b=true:=by simp[ie,J,ae,aq]
       rw[e];exact fin (acx (C m) b.toNat h (l6 J) (mD ae) (mD aq))
     · have e:ie b=(b.toNat==95):=by simp[ie,J,aq]
       rw[e,<-LV];exact fin (acy (C m) b.toNat h (l6 J) (mD ae) (l6 aq))
   · have e:ie b=(b.toNat==95):=by simp[ie,J,ae]
     rw[e,<-LV];exact fin (acz (C m) b.toNat h (l6 J) (l6 ae))
theorem G5(m:Nat)(b:UInt8)(h:I):C (m+1) (.fn 76) [ax b.toNat] h=.ret (.bool (eC b)) h:=by
 have fin:∀{x:Bool},a0 an Tryz.f76 none (C m) [] ⟨[(0,ax b.toNat)],[],.none,h⟩ .ret ⟨[(2,.bool x)],[],.none,h⟩->C (m+1) (.fn 76) [ax b.toNat] h=.ret (.bool x) h:=λaj=>
  eI (intr:=eD) (n:=m) (args:=[ax b.toNat]) Tryz.func76 aj (.inl rfl) (by kernel_rfl)
 by_cases J:48<=b.toNat
 · have aj:=acA (C m) b.toNat h (mD J)
   by_cases ae:b.toNat<=57
   · rw[show eQ b.toNat 57=true from mD ae] at aj
     have e:eC b=true:=by simp[eC,J,ae]
     rw[e];exact fin aj
   · rw[show eQ b.toNat 57=false from l6 ae] at aj
     have e:eC b=false:=by simp[eC,ae]
     rw[e];exact fin aj
 · have e:eC b=false:=by simp[eC,J]
   rw[e];exact fin (acB (C m) b.toNat h (l6 J))
def hM(b:UInt8):Bool:=ie b||eC b
theorem Se(m:Nat)(b:UInt8)(h:I):C (m+2) (.fn 75) [ax b.toNat] h=.ret (.bool (hM b)) h:=by
 have fin:∀{x:Bool},a0 an Tryz.f75 none (C (m+1)) [] ⟨[(0,ax b.toNat)],[],.none,h⟩ .ret ⟨[(2,.bool x)],[],.none,h⟩->C (m+2) (.fn 75) [ax b.toNat] h=.ret (.bool x) h:=λaj=>
  eI (intr:=eD) (n:=m+1) (args:=[ax b.toNat]) Tryz.func75 aj (.inl rfl) (by kernel_rfl)
 have a9:=Sd m b h
 have cI:=G5 m b h
 cases aA:ie b with
 |true=>
  rw[aA] at a9
  have e:hM b=true:=by simp[hM,aA]
  rw[e];exact fin (acC (C (m+1)) b.toNat h true h a9 rfl)
 |false=>
  rw[aA] at a9
  have e:hM b=eC b:=by simp[hM,aA]
  rw[e];exact fin (acD (C (m+1)) b.toNat h false h _ h a9 rfl cI)
abbrev fl(s:List UInt8)(a:Nat)(w dj o:aa):b5:=aD [.str s,ad a,w,dj,o] 97
theorem Sf(q:UInt8->Bool)(l:List UInt8):l.take (l.takeWhile q).length=l.takeWhile q:=
 (List.prefix_iff_eq_take.1 (List.takeWhile_prefix q)).symm
theorem Sg(m p a:Nat)(s:List UInt8)(w dj o:aa)(h:I)(aB:h.get p=some (fl s a w dj o))(ah:s.length<=90000):∀(k e:Nat),((s.drop e).takeWhile eC).length=k->e<=s.length->
  eP an Tryz.f74 none (C (m+2)) [1,1,0,0] (k+1) ⟨[(0,.ptr p 0),(1,.fn 76 [] []),(5,ad e)],[],.none,h⟩ (.exit 0) ⟨[(0,.ptr p 0),(1,.fn 76 [] []),(5,ad (e+k))],[],.none,h⟩
 |0,e,ai,he=>by
  by_cases aA:e<s.length
  · have bB:eC s[e]=false:=by
      cases ab:eC s[e] with
      |false=>rfl
      |true=>rw[List.drop_eq_getElem_cons aA,List.takeWhile_cons,if_pos ab] at ai;simp at ai
    have a9:=G5 (m+1) s[e] h
    rw[bB] at a9
    exact .exit (acF (C (m+2)) p e h s _ false h (aN aB rfl) (ib aA) (AB aA) a9 rfl) (by simp)
  · exact .exit (acG (C (m+2)) p e h s (aN aB rfl) (iR aA)) (by simp)
 |k+1,e,ai,he=>by
  by_cases aA:e<s.length
  · cases bB:eC s[e] with
    |false=>rw[List.drop_eq_getElem_cons aA,List.takeWhile_cons,if_neg (by rw[bB];simp)] at ai;simp at ai
    |true=>
     rw[List.drop_eq_getElem_cons aA,List.takeWhile_cons,if_pos bB] at ai
     have a9:=G5 (m+1) s[e] h
     rw[bB] at a9
     have bM:=Sg m p a s w dj o h aB ah k (e+1) (by simpa using ai) (by omega)
     rw[show e+1+k=e+(k+1) by omega] at bM
     exact .step (acE (C (m+2)) p e h s _ true h _ (aN aB rfl) (ib aA) (AB aA) a9 rfl (nL (by omega))) bM
  · rw[List.drop_eq_nil_of_le (by omega)] at ai;simp at ai
theorem adt(m p a:Nat)(s:List UInt8)(w dj o:aa)(h:I)(aB:h.get p=some (fl s a w dj o))(ah:s.length<=90000)(a_:a<=s.length)(a3:p<h.n):
  ∃ay,C (m+3) (.fn 74) [.ptr p 0,.fn 76 [] []] h=.ret (.str ((s.drop a).takeWhile eC)) ay/\ay.get p=some (fl s (a+((s.drop a).takeWhile eC).length) w dj o)/\bU p h.n h ay:=by
 obtain⟨k,ai⟩:∃k,((s.drop a).takeWhile eC).length=k:=⟨_,rfl⟩
 have hle:k<=s.length-a:=by
  have:=(List.takeWhile_prefix (l:=s.drop a) eC).length_le
  rw[ai,List.length_drop] at this;exact this
 have ho:=eP.run (p:=[1,1,0,0]) (by kernel_rfl) (Sg m p a s w dj o h aB ah k a ai a_) (by omega)
 have h9:=Qu (P:=an) (h:=h.room 11) (s:=s) (lo:=a) (hi:=a+k) (k:=.i64) (k':=.i64) A4 (by omega) (by omega)
 rw[Nat.add_sub_cancel_left,<-ai,Sf,ai] at h9
 have ng:(h.room 11).get p=some (fl s a w dj o):=aB
 have aj:=amP (C (m+2)) p 76 (a+k) h h _ s _ _ _ (aN aB rfl) (dU.pre (dU.post ho ⟨rfl,rfl,trivial⟩) ⟨rfl,rfl,rfl,trivial⟩ rfl rfl rfl) (aN ng rfl) (aN ng rfl) h9 (cy ng rfl rfl)
 rw[ai]
 refine⟨_,eI (intr:=eD) (n:=m+2) (args:=[.ptr p 0,.fn 76 [] []]) Tryz.func74 aj (.inl rfl) (by kernel_rfl),dz rfl,⟨by simp,λb ag e9=>cr e9 rfl⟩⟩
theorem Sh(m p a:Nat)(s:List UInt8)(w dj o:aa)(h:I)(aB:h.get p=some (fl s a w dj o))(ah:s.length<=90000):∀(k e:Nat),((s.drop e).takeWhile hM).length=k->e<=s.length->
  eP an Tryz.f74 none (C (m+2)) [1,1,0,0] (k+1) ⟨[(0,.ptr p 0),(1,.fn 75 [] []),(5,ad e)],[],.none,h⟩ (.exit 0) ⟨[(0,.ptr p 0),(1,.fn 75 [] []),(5,ad (e+k))],[],.none,h⟩
 |0,e,ai,he=>by
  by_cases aA:e<s.length
  · have bB:hM s[e]=false:=by
      cases ab:hM s[e] with
      |false=>rfl
      |true=>rw[List.drop_eq_getElem_cons aA,List.takeWhile_cons,if_pos ab] at ai;simp at ai
    have a9:=Se m s[e] h
    rw[bB] at a9
    exact .exit (acI (C (m+2)) p e h s _ false h (aN aB rfl) (ib aA) (AB aA) a9 rfl) (by simp)
  · exact .exit (acJ (C (m+2)) p e h s (aN aB rfl) (iR aA)) (by simp)
 |k+1,e,ai,he=>by
  by_cases aA:e<s.length
  · cases bB:hM s[e] with
    |false=>rw[List.drop_eq_getElem_cons aA,List.takeWhile_cons,if_neg (by rw[bB];simp)] at ai;simp at ai
    |true=>
     rw[List.drop_eq_getElem_cons aA,List.takeWhile_cons,if_pos bB] at ai
     have a9:=Se m s[e] h
     rw[bB] at a9
     have bM:=Sh m p a s w dj o h aB ah k (e+1) (by simpa using ai) (by omega)
     rw[show e+1+k=e+(k+1) by omega] at bM
     exact .step (acH (C (m+2)) p e h s _ true h _ (aN aB rfl) (ib aA) (AB aA) a9 rfl (nL (by omega))) bM
  · rw[List.drop_eq_nil_of_le (by omega)] at ai;simp at ai
theorem adu(m p a:Nat)(s:List UInt8)(w dj o:aa)(h:I)(aB:h.get p=some (fl s a w dj o))(ah:s.length<=90000)(a_:a<=s.length)(a3:p<h.n):
  ∃ay,C (m+3) (.fn 74) [.ptr p 0,.fn 75 [] []] h=.ret (.str ((s.drop a).takeWhile hM)) ay/\ay.get p=some (fl s (a+((s.drop a).takeWhile hM).length) w dj o)/\bU p h.n h ay:=by
 obtain⟨k,ai⟩:∃k,((s.drop a).takeWhile hM).length=k:=⟨_,rfl⟩
 have hle:k<=s.length-a:=by
  have:=(List.takeWhile_prefix (l:=s.drop a) hM).length_le
  rw[ai,List.length_drop] at this;exact this
 have ho:=eP.run (p:=[1,1,0,0]) (by kernel_rfl) (Sh m p a s w dj o h aB ah k a ai a_) (by omega)
 have h9:=Qu (P:=an) (h:=h.room 11) (s:=s) (lo:=a) (hi:=a+k) (k:=.i64) (k':=.i64) A4 (by omega) (by omega)
 rw[Nat.add_sub_cancel_left,<-ai,Sf,ai] at h9
 have ng:(h.room 11).get p=some (fl s a w dj o):=aB
 have aj:=amP (C (m+2)) p 75 (a+k) h h _ s _ _ _ (aN aB rfl) (dU.pre (dU.post ho ⟨rfl,rfl,trivial⟩) ⟨rfl,rfl,rfl,trivial⟩ rfl rfl rfl) (aN ng rfl) (aN ng rfl) h9 (cy ng rfl rfl)
 rw[ai]
 refine⟨_,eI (intr:=eD) (n:=m+2) (args:=[.ptr p 0,.fn 75 [] []]) Tryz.func74 aj (.inl rfl) (by kernel_rfl),dz rfl,⟨by simp,λb ag e9=>cr e9 rfl⟩⟩
abbrev qz(a:Nat):b5:=aD [ad 10,ad a] 31
def qA(v:aa)(a:Nat)(h ay:I):Prop:=∃e,v=.iface 68 (.ptr e 0)/\ay.get e=some (qz a)/\h.n<=e/\e<ay.n
theorem w_(m a:Nat)(h:I):C (m+1) (.fn 77) [ad a] h=.aK (.iface 68 (.ptr h.n 0)) (h.push (qz a)):=
 ow (intr:=eD) (n:=m) (args:=[ad a]) Tryz.func77 (by kernel_rfl) rfl (by kernel_rfl) (acO (C m) a h)
theorem xa{h0:I}(aT:h0.n<=h.n):qA (.iface 68 (.ptr h.n 0)) a h0 (h.push (qz a)):=⟨h.n,rfl,dx rfl,aT,by simp⟩
theorem Si(m p a:Nat)(s:List UInt8)(w dj o:aa)(h:I)(aB:h.get p=some (fl s a w dj o))(ah:s.length<=90000)(a_:a<=s.length):
  ∃ay,C (m+6) (.fn 71) [.ptr p 0] h=.ret (.str (line (s.drop a))) ay/\Ext h.n h ay:=by
 have ng:(h.room 17).get p=some (fl s a w dj o):=aB
 obtain⟨r,b,g,a9,bb⟩:=ac8 m (s.drop a) (h.room 17) (by rw[List.length_drop];omega)
 exact⟨g,eI (intr:=eD) (n:=m+5) (args:=[.ptr p 0]) Tryz.func71 (acK (C (m+5)) p h s a _ _ _ _ _ (aN ng rfl) (aN ng rfl) (A_ a_) a9) (.inl rfl) (by kernel_rfl),(Ext.room h.n h 17).trans (by simp) bb⟩
theorem Sj(m p a at':Nat)(s:List UInt8)(w dj o:aa)(h:I)(aI:gH h dL=true)(aB:h.get p=some (fl s a w dj o))(ah:s.length<=90000)(a_:at'<s.length):
  (ec (s.drop at')≠0->∃ay,C (m+3) (.fn 72) [.ptr p 0,ad at',.int .i32 (Int.ofNat (dS (s.drop at')).1)] h=.ret (.aF []) ay/\Ext h.n h ay)/\
  (ec (s.drop at')=0->∃v ay,C (m+3) (.fn 72) [.ptr p 0,ad at',.int .i32 (Int.ofNat (dS (s.drop at')).1)] h=.aK v ay/\qA v at' h ay/\Ext h.n h ay):=by
 have aH:=List.drop_eq_getElem_cons a_
 obtain⟨g,a9,bb⟩:=acu m s[at'] (s.drop (at'+1)) h aI
 rw[<-aH] at a9
 have kk:=A_ (h:=h) (s:=s) (k:=at') (by omega)
 have j8:aC h p (0+0)=some (.str s):=aN aB rfl
 refine⟨λak=>?_,λak=>?_⟩
 · by_cases aG:(dS (s.drop at')).1=65533
   · have aE:¬(dS (s.drop at')).2=1:=by
       rcases uQ (s.drop at') with⟨J,_⟩|⟨J,b,t,ae,aq,aQ⟩|⟨J,c,ae,_⟩
       · exact absurd J ak
       · rw[aQ] at aG;simp only at aG;omega
       · rw[ae];simp only;omega
     exact⟨g,eI (intr:=eD) (n:=m+2) (args:=[.ptr p 0,ad at',.int .i32 (Int.ofNat (dS (s.drop at')).1)]) Tryz.func72 (acQ (C (m+2)) p at' _ 0 0 h h s _ _ _ g j8 kk a9 (lO aG) (fU aE)) (.inr rfl) (by kernel_rfl),bb⟩
   · exact⟨g,eI (intr:=eD) (n:=m+2) (args:=[.ptr p 0,ad at',.int .i32 (Int.ofNat (dS (s.drop at')).1)]) Tryz.func72 (acR (C (m+2)) p at' _ 0 0 h h s _ _ _ g j8 kk a9 (fU aG)) (.inr rfl) (by kernel_rfl),bb⟩
 · have e:=A0 ak
   have I9:=w_ (m+1) at' g
   rw[e] at a9⊢
   exact⟨_,_,ow (intr:=eD) (n:=m+2) (args:=[.ptr p 0,ad at',.int .i32 (Int.ofNat 65533)]) Tryz.func72 (by kernel_rfl) rfl (by kernel_rfl) (acP (C (m+2)) p at' 65533 0 0 h h s _ _ _ g _ _ j8 kk a9 (lO rfl) (lO rfl) I9),xa bb.n,bb.trans bb.n (Ext.push (Nat.le_refl _) _)⟩
theorem adv{j:Nat}(aL:j<=i)(hi:i<256):arith BinOp.sub IntKind.u8 (Int.ofNat i) (Int.ofNat j)=some (ax (i-j)):=by
 have h:=wrap_u8 (i-j)
 rw[Nat.mod_eq_of_lt (show i-j<256 by omega)] at h
 have e:Int.ofNat i-Int.ofNat j=((i-j:Nat):Int):=by
  have aG:Int.ofNat i=(i:Int):=rfl
  have aE:Int.ofNat j=(j:Int):=rfl
  rw[aG,aE];omega
 simp only[arith,e,h];rfl
theorem adw:an.underlying 2=some (.int .i64):=by kernel_rfl
theorem Sk(m p a b:Nat)(w:List UInt8)(h:I)(aB:h.get b=some (.cells (cC w) 5 .aX 0 0))(hw:w.length<=90000)(aH:∀x∈w,eC x=true):∀(k i n:Nat),w.length-i=k->i<=w.length->n<=9223372036854775807->
  (∀v,jI (w.drop i) n=some v->eP an Tryz.f78 none (C (m+1)) [1,1,0,1,0] (k+1) ⟨[(0,.ptr p 0),(3,ad a),(4,ad n),(14,.slice b 0 w.length (.aX 1)),(15,ad w.length),(16,ad i)],[],.none,h⟩ (.exit 0) ⟨[(4,ad v)],[],.none,h⟩)/\
  (jI (w.drop i) n=none->eP an Tryz.f78 none (C (m+1)) [1,1,0,1,0] (k+1) ⟨[(0,.ptr p 0),(3,ad a),(4,ad n),(14,.slice b 0 w.length (.aX 1)),(15,ad w.length),(16,ad i)],[],.none,h⟩ (.aK (.iface 68 (.ptr h.n 0))) ⟨[],[],.none,h.push (qz a)⟩)
 |0,i,n,ai,hi,aT=>by
  obtain rfl:i=w.length:=by omega
  rw[List.drop_length]
  refine⟨λv aW=>?_,λaW=>by cases aW⟩
  cases aW
  exact .exit (dU.post (ac0 (C (m+1)) p a n b w.length w.length 0 (.aX 1) h (iR (by omega))) ⟨rfl,trivial⟩) (by simp)
 |k+1,i,n,ai,hi,aT=>by
  have aA:i<w.length:=by omega
  rw[List.drop_eq_getElem_cons aA]
  have Sl:=aH w[i] (List.getElem_mem aA)
  simp only[eC,Bool.and_eq_true,decide_eq_true_eq] at Sl
  have j8:aC h b (0+i*1)=some (ax (w[i]).toNat):=aN aB (by
   have e:0+i*1=i:=by omega
   rw[e];exact Sc w i aA)
  have s1:=adv (i:=w[i].toNat) (j:=48) Sl.1 (by omega)
  have ja:df an 5 2 (ax (w[i].toNat-48)) h=.val (ad (w[i].toNat-48)) h:=QE oI adw (by omega)
  have s2:=AD (i:=9223372036854775807) (j:=w[i].toNat-48) (by omega) (by omega)
  have c4:=ZX (i:=9223372036854775807-(w[i].toNat-48)) (j:=10) (by omega) (by omega)
  by_cases sj:n>(9223372036854775807-(w[i].toNat-48))/10
  · have e:jI (w[i]::w.drop (i+1)) n=none:=by simp only[jI];rw[if_pos sj]
    rw[e]
    refine⟨λv aW=>(by cases aW),λ_=>?_⟩
    exact .exit (dU.post (acY (C (m+1)) p a n b w.length i 0 (.aX 1) h _ _ _ _ _ _ _ (ib aA) aA j8 s1 ja s2 c4 (ib sj) (w_ m a h)) trivial) (by simp)
  · have e:jI (w[i]::w.drop (i+1)) n=jI (w.drop (i+1)) (10*n+(w[i].toNat-48)):=by
      conv=>lhs;unfold jI
      simp only[if_neg sj]
    rw[e]
    have c0:=Qw (i:=10) (j:=n) (by omega)
    have dq:=nL (i:=10*n) (j:=w[i].toNat-48) (by omega)
    have st:=acZ (C (m+1)) p a n b w.length i 0 (.aX 1) h _ _ _ _ _ _ _ _ (ib aA) aA j8 s1 ja s2 c4 (iR (by omega)) c0 dq (nL (i:=i) (j:=1) (by omega))
    obtain⟨i1,i2⟩:=Sk m p a b w h aB hw aH k (i+1) (10*n+(w[i].toNat-48)) (by omega) (by omega) (by omega)
    exact⟨λv aW=>.step st (i1 v aW),λaW=>.step st (i2 aW)⟩
theorem adx(m p a:Nat)(s:List UInt8)(w dj o:aa)(h:I)(aB:h.get p=some (fl s a w dj o))(ah:s.length<=90000)(a_:a<=s.length)(a3:p<h.n):
  (∀v,jI ((s.drop a).takeWhile eC) 0=some v->∃ay,C (m+4) (.fn 78) [.ptr p 0] h=.ret (ad v) ay/\ay.get p=some (fl s (a+((s.drop a).takeWhile eC).length) w dj o)/\bU p h.n h ay)/\
  (jI ((s.drop a).takeWhile eC) 0=none->∃v ay,C (m+4) (.fn 78) [.ptr p 0] h=.aK v ay/\qA v a h ay/\bU p h.n h ay):=by
 obtain⟨g,a9,al,bb⟩:=adt m p a s w dj o h aB ah a_ a3
 obtain⟨W,iv⟩:∃W,(s.drop a).takeWhile eC=W:=⟨_,rfl⟩
 rw[iv] at a9 al⊢
 have ady:W.length<=90000:=by
  have:=(List.takeWhile_prefix (l:=s.drop a) eC).length_le
  rw[iv,List.length_drop] at this;omega
 have adz:∀x∈W,eC x=true:=λx ab=>by
  rw[<-iv] at ab;exact(List.all_takeWhile (p:=eC) (l:=s.drop a)|>List.all_eq_true.1) x ab
 have ja:df an 9 44 (.str W) g=.val (.slice g.n 0 W.length (.aX 1)) (g.push (.cells (cC W) 5 .aX 0 0)):=by simp only[df,A4,A5,oI]
 obtain⟨fw,gw⟩:=Sk (m+2) p a g.n W (g.push (.cells (cC W) 5 .aX 0 0)) (dx rfl) ady adz W.length 0 0 rfl (Nat.zero_le _) (by omega)
 have az:=acW (C (m+3)) p 0 h a (aN aB rfl)
 have s1:=acX (C (m+3)) p a 0 g.n W.length (.aX 1) W h g _ a9 ja
 have sz:a0 an Tryz.f78 none (C (m+3)) [0] ⟨[(0,.ptr p 0)],[],.none,h⟩ .nrm ⟨[(0,.ptr p 0)],[],.none,h⟩:=ac5 (C (m+3)) p h
 have dO:(g.push (.cells (cC W) 5 .aX 0 0)).get p=some (fl s (a+W.length) w dj o):=gN (by have:=bb.n;omega) al
 have gn:bU p h.n h (g.push (.cells (cC W) 5 .aX 0 0)):=bb.trans bb.n (bU.push (Nat.le_refl _) _)
 rw[List.drop_zero] at fw gw
 refine⟨λv aW=>?_,λaW=>?_⟩
 · have ho:=eP.run (p:=[1,1,0,1,0]) (by kernel_rfl) (fw v aW) (by omega)
   have aj:=gG [] sz (gG [1] az (gG [1,1] (gG [1,1,0] s1 (a0.block (p:=[1,1,0,1]) (id:=0) (by kernel_rfl) ho)) (ac1 (C (m+3)) v _)))
   exact⟨_,eI (intr:=eD) (n:=m+3) (args:=[.ptr p 0]) Tryz.func78 aj (.inl rfl) (by kernel_rfl),dO,gn⟩
 · have ho:=eP.run (p:=[1,1,0,1,0]) (by kernel_rfl) (gw aW) (by omega)
   have aj:=gG [] sz (gG [1] az (AK [1,1] (gG [1,1,0] s1 (a0.qc (p:=[1,1,0,1]) (id:=0) (by kernel_rfl) ho (by simp))) (by simp)))
   exact⟨_,_,ow (intr:=eD) (n:=m+3) (args:=[.ptr p 0]) Tryz.func78 (by kernel_rfl) rfl (by kernel_rfl) aj,xa gn.n,gn.trans gn.n (bU.push (Nat.le_refl _) _)⟩
theorem Sm(p b it:Nat)(e:Bool)(s:List UInt8)(h g:I)
  (H1:kh h (aa.ptr it 0) true=some (aa.aF [aa.bool false],g)):
  a0 an Tryz.f79 none call [1,1,1,0,1,0,0] (az [(0,af p),(3,af b),(4,.str s),(5,.bool e),(13,af it)] h) (.exit 0)
   (az [(0,af p),(3,af b),(4,.str s),(5,.bool e),(13,af it)] g):=
 bA [0,3,4,5,13] [.cU (.aF [.bool false]) g,.b false] 16 2 33 (hU H1 bz)
theorem adA(p b it i c:Nat)(s:List UInt8)(h g:I)(aP aY:Nat)
  (H1:kh h (aa.ptr it 0) true=some (aa.aF [aa.bool true,ad i,aa.int IntKind.i32 (Int.ofNat c)],g))
  (a4:aC g p (0+1)=some (ad aP))
  (bh:arith .add .i64 (.ofNat aP) (.ofNat i)=some (ad aY))
  (bx:dA i 0=true):
  a0 an Tryz.f79 none call [1,1,1,0,1,0,0] (az [(0,af p),(3,af b),(4,.str s),(5,.bool false),(13,af it)] h) (.nrm)
   (az [(0,af p),(3,af b),(4,.str s),(5,.bool false),(13,af it)] g):=
 bA [0,2,3,4,5,13] [.cU (.aF [.bool true,ad i,.int .i32 (.ofNat c)]) g,.b true,.v (ad aP),.v (ad aY),.b true] 16 5 131909 (jt H1 a4 bh bx bz)
theorem adB(p b it i c:Nat)(s:List UInt8)(h g:I)(aP aY:Nat)
  (H1:kh h (aa.ptr it 0) true=some (aa.aF [aa.bool true,ad i,aa.int IntKind.i32 (Int.ofNat c)],g))
  (a4:aC g p (0+1)=some (ad aP))
  (bh:arith .add .i64 (.ofNat aP) (.ofNat i)=some (ad aY))
  (bx:dA i 0=false)
  (bW:dA c 92=true):
  a0 an Tryz.f79 none call [1,1,1,0,1,0,0] (az [(0,af p),(3,af b),(4,.str s),(5,.bool false),(13,af it)] h) (.nrm)
   (az [(0,af p),(3,af b),(4,.str s),(5,.bool true),(13,af it)] g):=
 bA [0,2,3,4,5,13] (.cU (.aF [.bool true,ad i,.int .i32 (.ofNat c)]) g::.b true::.v (ad aP)::.v (ad aY)::cY 3 1 []) 16 7 33768726 (nM H1 a4 bh bx bW bz)
theorem adC(p b it i c:Nat)(s:List UInt8)(h g:I)(aP aY ba:Nat)(aS:I)(bS:List UInt8)(cV:I)
  (H1:kh h (aa.ptr it 0) true=some (aa.aF [aa.bool true,ad i,aa.int IntKind.i32 (Int.ofNat c)],g))
  (a4:aC g p (0+1)=some (ad aP))
  (bh:arith .add .i64 (.ofNat aP) (.ofNat i)=some (ad aY))
  (bx:dA i 0=false)
  (bW:dA c 92=false)
  (cA:dA c 34=true)
  (c2:arith .add .i64 (.ofNat aY) (.ofNat 1)=some (ad ba))
  (di:aJ.storeCells g p (0+1) [ad ba]=some aS)
  (eE:call (.fn 112) [af b] aS=a8.ret (.str bS) cV):
  a0 an Tryz.f79 none call [1,1,1,0,1,0,0] (az [(0,af p),(3,af b),(4,.str s),(5,.bool false),(13,af it)] h) (.ret)
   (az [(0,af p),(2,.str bS),(3,af b),(4,.str s),(5,.bool false),(13,af it)] cV):=
 bA [0,2,3,4,5,13] (.cU (.aF [.bool true,ad i,.int .i32 (.ofNat c)]) g::.b true::.v (ad aP)::.v (ad aY)::cY 4 1 [.v (ad ba),.cU (.aF []) aS,.c (.str bS) cV]) 16 11 2213067258010 (dN H1 a4 bh bx bW cA c2 (⟨by kernel_rfl,di,rfl⟩:some 1=some 1/\aJ.storeCells g p (0+1) [ad ba]=some aS/\aa.aF []=aa.aF []) eE bz)
theorem adD(p b it i c:Nat)(s:List UInt8)(h g:I)(aP aY:Nat)(aS:I)(ba:Nat)(gP:aa)(cV:I)
  (H1:kh h (aa.ptr it 0) true=some (aa.aF [aa.bool true,ad i,aa.int IntKind.i32 (Int.ofNat c)],g))
  (a4:aC g p (0+1)=some (ad aP))
  (bh:arith .add .i64 (.ofNat aP) (.ofNat i)=some (ad aY))
  (bx:dA i 0=false)
  (bW:dA c 92=false)
  (cA:dA c 34=false)
  (c2:call (.fn 72) [af p,ad aY,.int .i32 (.ofNat c)] g=a8.ret (.aF []) aS)
  (di:call (.fn 113) [af b,.int .i32 (.ofNat c)] aS=a8.ret (.aF [ad ba,gP]) cV):
  a0 an Tryz.f79 none call [1,1,1,0,1,0,0] (az [(0,af p),(3,af b),(4,.str s),(5,.bool false),(13,af it)] h) (.nrm)
   (az [(0,af p),(3,af b),(4,.str s),(5,.bool false),(13,af it)] cV):=
 bA [0,2,3,4,5,13] (.cU (.aF [.bool true,ad i,.int .i32 (.ofNat c)]) g::.b true::.v (ad aP)::.v (ad aY)::cY 4 0 [.c (.aF []) aS,.c (.aF [ad ba,gP]) cV]) 16 10 138316703625 (pq H1 a4 bh bx bW cA c2 di bz)
theorem adE(p b it i c a c9:Nat)(v:aa)(s:List UInt8)(h g al:I)(aP aY:Nat)
  (H1:kh h (aa.ptr it 0) true=some (aa.aF [aa.bool true,ad i,aa.int IntKind.i32 (Int.ofNat c)],g))
  (a4:aC g p (0+1)=some (ad aP))
  (bh:arith .add .i64 (.ofNat aP) (.ofNat i)=some (ad aY))
  (bx:dA i 0=false)
  (bW:dA c 92=false)
  (cA:dA c 34=false)
  (c2:call (.fn 72) [af p,ad aY,.int .i32 (.ofNat c)] g=a8.aK v al):
  a0 an Tryz.f79 none call [1,1,1,0,1,0,0] (az [(0,af p),(3,af b),(4,.str s),(5,.bool false),(13,af it)] h) (.aK v)
   (az [(0,af p),(3,af b),(4,.str s),(5,.bool false),(13,af it)] al):=
 bA [0,2,3,4,5,13] (.cU (.aF [.bool true,ad i,.int .i32 (.ofNat c)]) g::.b true::.v (ad aP)::.v (ad aY)::cY 4 0 [.p v al]) 16 9 8644793976 (AJ H1 a4 bh bx bW cA c2 bz)
theorem adF(p b it i c k:Nat)(s t:List UInt8)(h g al:I)(aP aY:Nat)(bS:List UInt8)(ba:Nat)(gP:aa)(aS:I)
  (H1:kh h (aa.ptr it 0) true=some (aa.aF [aa.bool true,ad i,aa.int IntKind.i32 (Int.ofNat c)],g))
  (a4:aC g p (0+1)=some (ad aP))
  (bh:arith .add .i64 (.ofNat aP) (.ofNat i)=some (ad aY))
  (bx:dA i 0=false)
  (bW:call (.fn 99) [.str [34,92,110],.int .i32 (.ofNat c)] g=a8.ret (ad k) al)
  (cA:Nat.le (Nat.succ k) 3)
  (c2:aC (I.push al (aD [.str [34],.str [92],.str [10]] 9)) (I.n al) (0+k*1)=some (.str bS))
  (di:call (.fn 111) [af b,.str bS] (I.push al (aD [.str [34],.str [92],.str [10]] 9))=a8.ret (.aF [ad ba,gP]) aS):
  a0 an Tryz.f79 none call [1,1,1,0,1,0,0] (az [(0,af p),(3,af b),(4,.str s),(5,.bool true),(13,af it)] h) (.nrm)
   (az [(0,af p),(3,af b),(4,.str s),(5,.bool false),(13,af it)] aS):=
 bA [0,2,3,4,5,13] (.cU (.aF [.bool true,ad i,.int .i32 (.ofNat c)]) g::.b true::.v (ad aP)::.v (ad aY)::cY 2 1 [.c (ad k) al,.b false,.v (.ptr (I.n al) (0+k*1)),.v (.str bS),.c (.aF [ad ba,gP]) aS]) 16 11 2213066209434 (dN H1 a4 bh bx bW (by kernel_rfl:cz k 0=false) (⟨cA,rfl⟩:Nat.le (Nat.succ k) 3/\aa.ptr (I.n al) (0+k*1)=aa.ptr (I.n al) (0+k*1)) c2 di bz)
theorem adG(p b it i c:Nat)(s:List UInt8)(h g al:I)(aP aY ba:Nat)(gP:aa)(aS:I)
  (H1:kh h (aa.ptr it 0) true=some (aa.aF [aa.bool true,ad i,aa.int IntKind.i32 (Int.ofNat c)],g))
  (a4:aC g p (0+1)=some (ad aP))
  (bh:arith .add .i64 (.ofNat aP) (.ofNat i)=some (ad aY))
  (bx:dA i 0=false)
  (bW:call (.fn 99) [.str [34,92,110],.int .i32 (.ofNat c)] g=a8.ret (.int .i64 (.negSucc 0)) al)
  (cA:arith .sub .i64 (.ofNat aY) (.ofNat 1)=some (ad ba))
  (c2:call (.fn 77) [ad ba] al=a8.aK gP aS):
  a0 an Tryz.f79 none call [1,1,1,0,1,0,0] (az [(0,af p),(3,af b),(4,.str s),(5,.bool true),(13,af it)] h) (.aK gP)
   (az [(0,af p),(3,af b),(4,.str s),(5,.bool true),(13,af it)] aS):=
 bA [0,2,3,4,5,13] (.cU (.aF [.bool true,ad i,.int .i32 (.ofNat c)]) g::.b true::.v (ad aP)::.v (ad aY)::cY 2 1 [.c (.int .i64 (-1)) al,.b true,.v (ad ba),.p gP aS]) 16 10 138316638089 (pq H1 a4 bh bx bW (by kernel_rfl:jZ (Int.negSucc 0) (Int.ofNat 0)=true) cA c2 bz)
theorem adH(p:Nat)(s t:List UInt8)(h g al:I)
  (H1:call (.fn 71) [af p] (I.push h (aD [.au,.ao] 175))=a8.ret (.str s) g)
  (a4:a0 an Tryz.f79 none call [1,1,1,0,1,0] (az [(13,af (I.n g)),(5,.bool false),(4,.str s),(3,af (I.n h)),(2,.str []),(0,af p)] (I.push g (.fp s 0))) (.ret) (az [(2,.str t)] al)):
  a0 an Tryz.f79 none call [] (az [(0,af p)] h) (.ret)
   (az [(2,.str t)] al):=
 bA [2] [Hint.c (aa.str s) g,Hint.loop cl.ret (bD.mk [(2,aa.str t)] [] cm.none al)] 16 2 35 (kP H1 a4 bz)
theorem adI(p:Nat)(v:aa)(s t:List UInt8)(h g al:I)
  (H1:call (.fn 71) [af p] (I.push h (aD [.au,.ao] 175))=a8.ret (.str s) g)
  (a4:a0 an Tryz.f79 none call [1,1,1,0,1,0] (az [(13,af (I.n g)),(5,.bool false),(4,.str s),(3,af (I.n h)),(2,.str []),(0,af p)] (I.push g (.fp s 0))) (.aK v) (az [] al)):
  a0 an Tryz.f79 none call [] (az [(0,af p)] h) (.aK v)
   (az [] al):=
 bA [2] [Hint.c (aa.str s) g,Hint.loop (cl.aK v) (bD.mk [] [] cm.none al)] 16 2 35 (kP H1 a4 bz)
theorem adJ(p:Nat)(e:Bool)(s t:List UInt8)(h g al:I)(aP aY ba:Nat)(gP:aa)(aS:I)
  (H1:call (.fn 71) [af p] (I.push h (aD [.au,.ao] 175))=a8.ret (.str s) g)
  (a4:a0 an Tryz.f79 none call [1,1,1,0,1,0] (az [(13,af (I.n g)),(5,.bool false),(4,.str s),(3,af (I.n h)),(2,.str []),(0,af p)] (I.push g (.fp s 0))) (.exit 0) (az [(0,af p),(4,.str s),(5,.bool e)] al))
  (bh:e=true)
  (bx:aC al p (0+1)=some (ad aP))
  (bW:arith .add .i64 (.ofNat aP) (.ofNat s.length)=some (ad aY))
  (cA:arith .sub .i64 (.ofNat aY) (.ofNat 1)=some (ad ba))
  (c2:call (.fn 77) [ad ba] al=a8.aK gP aS):
  a0 an Tryz.f79 none call [] (az [(0,af p)] h) (.aK gP)
   (az [] aS):=
 bA [2] [Hint.c (aa.str s) g,Hint.loop (cl.exit 0) (bD.mk [(0,aa.ptr p 0),(4,aa.str s),(5,aa.bool e)] [] cm.none al),Hint.b true,Hint.v (ad aP),Hint.v (ad aY),Hint.v (ad ba),Hint.p gP aS] 16 7 36984440 (AJ H1 a4 bh bx bW cA c2 bz)
theorem adK(p:Nat)(e:Bool)(s t:List UInt8)(h g al:I)(aP:Nat)(gP:aa)(aS:I)
  (H1:call (.fn 71) [af p] (I.push h (aD [.au,.ao] 175))=a8.ret (.str s) g)
  (a4:a0 an Tryz.f79 none call [1,1,1,0,1,0] (az [(13,af (I.n g)),(5,.bool false),(4,.str s),(3,af (I.n h)),(2,.str []),(0,af p)] (I.push g (.fp s 0))) (.exit 0) (az [(0,af p),(4,.str s),(5,.bool e)] al))
  (bh:e=false)
  (bx:aC al p (0+1)=some (ad aP))
  (bW:call (.fn 77) [ad aP] al=a8.aK gP aS):
  a0 an Tryz.f79 none call [] (az [(0,af p)] h) (.aK gP)
   (az [] aS):=
 bA [2] [Hint.c (aa.str s) g,Hint.loop (cl.exit 0) (bD.mk [(0,aa.ptr p 0),(4,aa.str s),(5,aa.bool e)] [] cm.none al),Hint.b false,Hint.v (ad aP),Hint.p gP aS] 16 5 144470 (nM H1 a4 bh bx bW bz)
theorem adL(p:Nat)(h:I):
  a0 an Tryz.f37 none call [0] (az [(0,af p)] h) (.nrm)
   (az [(1,af (I.n h))] (I.push h (aD [af p] 92))):=
 bA [1] [] 16 0 0 bz
theorem LW(q:Nat)(h:I)(aP aY ba:Nat)(aS:I)
  (H1:aC h q 0=some (.ptr aP aY))
  (a4:aC h aP (aY+1)=some (ad ba))
  (bh:aJ.storeCells (I.push h (aD [ad 0,.str [],ad 0,ad 0] 76)) (I.n h) 0 [ad 0,.str [],ad 0,ad ba]=some aS):
  a0 an Tryz.f37 none call [1,0] (az [(1,af q)] h) (.nrm)
   (az [(1,af q),(2,af (I.n h))] aS):=
 bA [1,2] [.v (.ptr aP aY),.v (ad ba),.cU (.aF []) aS] 16 3 564 (m9 H1 a4 (⟨by kernel_rfl,bh,rfl⟩:some 4=some 4/\aJ.storeCells (I.push h (b5.cells [ad 0,aa.str [],ad 0,ad 0] 76 ff.own 0 0)) (I.n h) 0 [ad 0,aa.str [],ad 0,ad ba]=some aS/\aa.aF []=aa.aF []) bz)
theorem LX(q r:Nat)(h:I)(aP aY:Nat)(bS:List UInt8)(ba cd:Nat)
  (H1:aC (I.room h 10) q 0=some (.ptr aP aY))
  (a4:aC (I.room h 10) aP (aY+0)=some (.str bS))
  (bh:aC (I.room h 10) aP (aY+1)=some (ad ba))
  (bx:eJ ba bS=some (ax cd)):
  a0 an Tryz.f37 none call [1,1,0,0] (az [(1,af q),(2,af r)] h) (.nrm)
   (az [(1,af q),(2,af r),(3,ax cd)] (I.room h 10)):=
 bA [1,2,3] [.v (.ptr aP aY),.v (.str bS),.v (.ptr aP aY),.v (ad ba),.v (ax cd)] 16 25 0x23245626789a36267bcd4e5ef (dN H1 a4 bh bx (b4 (.ptr aP aY)) (ck (.ptr aP aY)) (b4 (.ptr aP (aY+0))) (ck (.ptr aP (aY+0))) (b4 (.str bS))<|nM (b4 (.ptr aP (aY+1))) (ck (.ptr aP (aY+1))) (b4 (ad ba)) (b4 (ax cd)) (ck (ax cd)) bz)
theorem adM(q r c:Nat)(h:I)(dm:Bool)(aS:I)(aP aY:Nat)(bS:List UInt8)(cV fV eM:I)(ba cd db:Nat)(dX:List UInt8)(hL:Bool)(hC:I)(oK:List UInt8)(dM:Nat)(gP:aa)(xb:I)
  (H1:call (.fn 73) [ax c] h=a8.ret (.bool dm) aS)
  (a4:dm=true)
  (bh:aC aS q 0=some (.ptr aP aY))
  (bx:call (.fn 74) [.ptr aP aY,.fn 75 [] []] aS=a8.ret (.str bS) cV)
  (bW:aJ.storeCells cV r (0+0) [ad 1]=some fV)
  (cA:aJ.storeCells fV r (0+1) [.str bS]=some eM)
  (c2:aC (I.room eM 7) q 0=some (.ptr ba cd))
  (di:aC (I.room eM 7) ba (cd+2)=some (.map db))
  (eE:aC (I.room eM 7) r (0+1)=some (.str dX))
  (g3:mY an (I.room eM 7) 93 (aa.map db) (aa.str dX) false=some (aa.bool hL))
  (hp:hL=true)
  (hK:aJ.storeCells (I.room eM 7) r (0+0) [ad 2]=some hC)
  (iJ:aC hC r (0+1)=some (.str oK))
  (iK:cz 24 oK.length=true)
  (j6:aC hC r (0+3)=some (ad dM))
  (kS:call (.fn 77) [ad dM] hC=a8.aK gP xb):
  a0 an Tryz.f37 none call [1,1,0,1] (az [(1,af q),(2,af r),(3,ax c)] h) (.aK gP)
   (az [(1,af q),(2,af r)] xb):=
 bA [1,2] [.c (.bool dm) aS,.b true,.v (.ptr aP aY),.c (.str bS) cV,.cU (.aF []) fV,.cU (.aF []) eM,.v (.ptr ba cd),.v (.map db),.v (.str dX),.v (.bool hL),.b true,.cU (.aF []) hC,.v (.str oK),.b true,.v (ad dM),.p gP xb] 256 30 0x2030405060708090a0b0c080c0d0e0f10091112130a140b15161718191a (dN H1 a4 bh bx (⟨by kernel_rfl,bW,rfl⟩:some 1=some 1/\aJ.storeCells cV r (0+0) [ad 1]=some fV/\aa.aF []=aa.aF []) (⟨by kernel_rfl,cA,rfl⟩:some 1=some 1/\aJ.storeCells fV r (0+1) [aa.str bS]=some eM/\aa.aF []=aa.aF []) c2 di eE<|dN g3 (b4 (.ptr ba cd)) (ck (.ptr ba cd)) (b4 (.ptr ba (cd+2))) (ck (.ptr ba (cd+2))) (b4 (.map db)) (b4 (.ptr r (0+1))) (ck (.ptr r (0+1))) (b4 (.str dX))<|AJ (b4 (.bool hL)) hp (⟨by kernel_rfl,hK,rfl⟩:some 1=some 1/\aJ.storeCells (I.room eM 7) r (0+0) [ad 2]=some hC/\aa.aF []=aa.aF []) iJ iK j6 kS bz)
theorem adN(q r c:Nat)(h:I)(dm:Bool)(aS:I)(aP aY:Nat)(bS:List UInt8)(cV fV eM:I)(ba cd db:Nat)(dX:List UInt8)(hL:Bool)(hC:I)(oK:List UInt8)
  (H1:call (.fn 73) [ax c] h=a8.ret (.bool dm) aS)
  (a4:dm=true)
  (bh:aC aS q 0=some (.ptr aP aY))
  (bx:call (.fn 74) [.ptr aP aY,.fn 75 [] []] aS=a8.ret (.str bS) cV)
  (bW:aJ.storeCells cV r (0+0) [ad 1]=some fV)
  (cA:aJ.storeCells fV r (0+1) [.str bS]=some eM)
  (c2:aC (I.room eM 7) q 0=some (.ptr ba cd))
  (di:aC (I.room eM 7) ba (cd+2)=some (.map db))
  (eE:aC (I.room eM 7) r (0+1)=some (.str dX))
  (g3:mY an (I.room eM 7) 93 (aa.map db) (aa.str dX) false=some (aa.bool hL))
  (hp:hL=true)
  (hK:aJ.storeCells (I.room eM 7) r (0+0) [ad 2]=some hC)
  (iJ:aC hC r (0+1)=some (.str oK))
  (iK:cz 24 oK.length=false):
  a0 an Tryz.f37 none call [1,1,0,1] (az [(1,af q),(2,af r),(3,ax c)] h) (.nrm)
   (az [(1,af q),(2,af r)] hC):=
 bA [1,2] [.c (.bool dm) aS,.b true,.v (.ptr aP aY),.c (.str bS) cV,.cU (.aF []) fV,.cU (.aF []) eM,.v (.ptr ba cd),.v (.map db),.v (.str dX),.v (.bool hL),.b true,.cU (.aF []) hC,.v (.str oK),.b false] 256 28 0x2030405060708090a0b0c080c0d0e0f10091112130a140b15161718 (dN H1 a4 bh bx (⟨by kernel_rfl,bW,rfl⟩:some 1=some 1/\aJ.storeCells cV r (0+0) [ad 1]=some fV/\aa.aF []=aa.aF []) (⟨by kernel_rfl,cA,rfl⟩:some 1=some 1/\aJ.storeCells fV r (0+1) [aa.str bS]=some eM/\aa.aF []=aa.aF []) c2 di eE<|dN g3 (b4 (.ptr ba cd)) (ck (.ptr ba cd)) (b4 (.ptr ba (cd+2))) (ck (.ptr ba (cd+2))) (b4 (.map db)) (b4 (.ptr r (0+1))) (ck (.ptr r (0+1))) (b4 (.str dX))<|nM (b4 (.bool hL)) hp (⟨by kernel_rfl,hK,rfl⟩:some 1=some 1/\aJ.storeCells (I.room eM 7) r (0+0) [ad 2]=some hC/\aa.aF []=aa.aF []) iJ iK bz)
theorem adO(q r c:Nat)(h:I)(dm:Bool)(aS:I)(aP aY:Nat)(bS:List UInt8)(cV fV eM:I)(ba cd db:Nat)(dX:List UInt8)(hL:Bool)(dM:Nat)(gP:aa)(hC:I)
  (H1:call (.fn 73) [ax c] h=a8.ret (.bool dm) aS)
  (a4:dm=true)
  (bh:aC aS q 0=some (.ptr aP aY))
  (bx:call (.fn 74) [.ptr aP aY,.fn 75 [] []] aS=a8.ret (.str bS) cV)
  (bW:aJ.storeCells cV r (0+0) [ad 1]=some fV)
  (cA:aJ.storeCells fV r (0+1) [.str bS]=some eM)
  (c2:aC (I.room eM 7) q 0=some (.ptr ba cd))
  (di:aC (I.room eM 7) ba (cd+2)=some (.map db))
  (eE:aC (I.room eM 7) r (0+1)=some (.str dX))
  (g3:mY an (I.room eM 7) 93 (aa.map db) (aa.str dX) false=some (aa.bool hL))
  (hp:hL=false)
  (hK:cz 24 dX.length=true)
  (iJ:aC (I.room eM 7) r (0+3)=some (ad dM))
  (iK:call (.fn 77) [ad dM] (I.room eM 7)=a8.aK gP hC):
  a0 an Tryz.f37 none call [1,1,0,1] (az [(1,af q),(2,af r),(3,ax c)] h) (.aK gP)
   (az [(1,af q),(2,af r)] hC):=
 bA [1,2] [.c (.bool dm) aS,.b true,.v (.ptr aP aY),.c (.str bS) cV,.cU (.aF []) fV,.cU (.aF []) eM,.v (.ptr ba cd),.v (.map db),.v (.str dX),.v (.bool hL),.b false,.v (.str dX),.b true,.v (ad dM),.p gP hC] 256 29 0x2030405060708090a0b0c080c0d0e0f10091112130a140b150a161718 (dN H1 a4 bh bx (⟨by kernel_rfl,bW,rfl⟩:some 1=some 1/\aJ.storeCells cV r (0+0) [ad 1]=some fV/\aa.aF []=aa.aF []) (⟨by kernel_rfl,cA,rfl⟩:some 1=some 1/\aJ.storeCells fV r (0+1) [aa.str bS]=some eM/\aa.aF []=aa.aF []) c2 di eE<|dN g3 (b4 (.ptr ba cd)) (ck (.ptr ba cd)) (b4 (.ptr ba (cd+2))) (ck (.ptr ba (cd+2))) (b4 (.map db)) (b4 (.ptr r (0+1))) (ck (.ptr r (0+1))) (b4 (.str dX))<|nM (b4 (.bool hL)) hp hK iJ iK bz)
theorem adP(q r c:Nat)(h:I)(dm:Bool)(aS:I)(aP aY:Nat)(bS:List UInt8)(cV fV eM:I)(ba cd db:Nat)(dX:List UInt8)(hL:Bool)
  (H1:call (.fn 73) [ax c] h=a8.ret (.bool dm) aS)
  (a4:dm=true)
  (bh:aC aS q 0=some (.ptr aP aY))
  (bx:call (.fn 74) [.ptr aP aY,.fn 75 [] []] aS=a8.ret (.str bS) cV)
  (bW:aJ.storeCells cV r (0+0) [ad 1]=some fV)
  (cA:aJ.storeCells fV r (0+1) [.str bS]=some eM)
  (c2:aC (I.room eM 7) q 0=some (.ptr ba cd))
  (di:aC (I.room eM 7) ba (cd+2)=some (.map db))
  (eE:aC (I.room eM 7) r (0+1)=some (.str dX))
  (g3:mY an (I.room eM 7) 93 (aa.map db) (aa.str dX) false=some (aa.bool hL))
  (hp:hL=false)
  (hK:cz 24 dX.length=false):
  a0 an Tryz.f37 none call [1,1,0,1] (az [(1,af q),(2,af r),(3,ax c)] h) (.nrm)
   (az [(1,af q),(2,af r)] (I.room eM 7)):=
 bA [1,2] [.c (.bool dm) aS,.b true,.v (.ptr aP aY),.c (.str bS) cV,.cU (.aF []) fV,.cU (.aF []) eM,.v (.ptr ba cd),.v (.map db),.v (.str dX),.v (.bool hL),.b false,.v (.str dX),.b false] 256 27 0x2030405060708090a0b0c080c0d0e0f10091112130a140b150a16 (dN H1 a4 bh bx (⟨by kernel_rfl,bW,rfl⟩:some 1=some 1/\aJ.storeCells cV r (0+0) [ad 1]=some fV/\aa.aF []=aa.aF []) (⟨by kernel_rfl,cA,rfl⟩:some 1=some 1/\aJ.storeCells fV r (0+1) [aa.str bS]=some eM/\aa.aF []=aa.aF []) c2 di eE<|dN g3 (b4 (.ptr ba cd)) (ck (.ptr ba cd)) (b4 (.ptr ba (cd+2))) (ck (.ptr ba (cd+2))) (b4 (.map db)) (b4 (.ptr r (0+1))) (ck (.ptr r (0+1))) (b4 (.str dX))<|m9 (b4 (.bool hL)) hp hK bz)
theorem adQ(q r c:Nat)(h:I)(dm:Bool)(aS:I)(hL:Bool)(cV:I)(aP aY ba:Nat)(fV eM hC:I)
  (H1:call (.fn 73) [ax c] h=a8.ret (.bool dm) aS)
  (a4:dm=false)
  (bh:call (.fn 76) [ax c] aS=a8.ret (.bool hL) cV)
  (bx:hL=true)
  (bW:aC cV q 0=some (.ptr aP aY))
  (cA:call (.fn 78) [.ptr aP aY] cV=a8.ret (ad ba) fV)
  (c2:aJ.storeCells fV r (0+0) [ad 3]=some eM)
  (di:aJ.storeCells eM r (0+2) [ad ba]=some hC):
  a0 an Tryz.f37 none call [1,1,0,1] (az [(1,af q),(2,af r),(3,ax c)] h) (.nrm)
   (az [(1,af q),(2,af r)] hC):=
 bA [1,2] [.c (.bool dm) aS,.b false,.c (.bool hL) cV,.b true,.v (.ptr aP aY),.c (ad ba) fV,.cU (.aF []) eM,.cU (.aF []) hC] 16 8 591751049 (pq H1 a4 bh bx bW cA (⟨by kernel_rfl,c2,rfl⟩:some 1=some 1/\aJ.storeCells fV r (0+0) [ad 3]=some eM/\aa.aF []=aa.aF []) (⟨by kernel_rfl,di,rfl⟩:some 1=some 1/\aJ.storeCells eM r (0+2) [ad ba]=some hC/\aa.aF []=aa.aF []) bz)
theorem adR(q r c:Nat)(h:I)(dm:Bool)(aS:I)(hL:Bool)(cV:I)(aP aY:Nat)(bS:List UInt8)(fV eM hC:I)
  (H1:call (.fn 73) [ax c] h=a8.ret (.bool dm) aS)
  (a4:dm=false)
  (bh:call (.fn 76) [ax c] aS=a8.ret (.bool hL) cV)
  (bx:hL=false)
  (bW:dA c 34=true)
  (cA:aC cV q 0=some (.ptr aP aY))
  (c2:call (.fn 79) [.ptr aP aY] cV=a8.ret (.str bS) fV)
  (di:aJ.storeCells fV r (0+0) [ad 4]=some eM)
  (eE:aJ.storeCells eM r (0+1) [.str bS]=some hC):
  a0 an Tryz.f37 none call [1,1,0,1] (az [(1,af q),(2,af r),(3,ax c)] h) (.nrm)
   (az [(1,af q),(2,af r)] hC):=
 bA [1,2] (.c (.bool dm) aS::.b false::.c (.bool hL) cV::cY 2 1 [.v (.ptr aP aY),.c (.str bS) fV,.cU (.aF []) eM,.cU (.aF []) hC]) 16 9 9468016794 (dN H1 a4 bh bx bW cA c2 (⟨by kernel_rfl,di,rfl⟩:some 1=some 1/\aJ.storeCells fV r (0+0) [ad 4]=some eM/\aa.aF []=aa.aF []) (⟨by kernel_rfl,eE,rfl⟩:some 1=some 1/\aJ.storeCells eM r (0+1) [aa.str bS]=some hC/\aa.aF []=aa.aF []) bz)
theorem adS(q r c:Nat)(h:I)(dm:Bool)(aS:I)(hL:Bool)(cV:I)(aP aY ba cd db:Nat)(uU:dn)(dM:Nat)(fV:I)(eu fH hV hW iT:Nat)(G6:dn)(bS:List UInt8)(eM hC:I)(j7 lr nU:Nat)(dX:List UInt8)(nf:Nat)(xb:I)
  (H1:call (.fn 73) [ax c] h=a8.ret (.bool dm) aS)
  (a4:dm=false)
  (bh:call (.fn 76) [ax c] aS=a8.ret (.bool hL) cV)
  (bx:hL=false)
  (bW:dA c 34=false)
  (cA:aC cV q 0=some (.ptr aP aY))
  (c2:aC cV aP (aY+3)=some (.slice ba cd db uU))
  (di:call (.fn 80) [.slice ba cd db uU,.fn 81 [] [af q]] cV=a8.ret (ad dM) fV)
  (eE:aC (I.room fV 11) q 0=some (.ptr eu fH))
  (g3:aC (I.room fV 11) eu (fH+3)=some (.slice hV hW iT G6))
  (hp:Nat.le (Nat.succ dM) iT)
  (hK:aC (I.room fV 11) hV (hW+dM*1)=some (.str bS))
  (iJ:aJ.storeCells (I.room fV 11) r (0+0) [ad 5]=some eM)
  (iK:aJ.storeCells eM r (0+1) [.str bS]=some hC)
  (j6:aC eM q 0=some (.ptr eu fH))
  (kS:aC eM eu (fH+3)=some (.slice hV hW iT G6))
  (mb:aC eM hV (hW+dM*1)=some (.str bS))
  (nb:aC (I.room hC 11) q 0=some (.ptr j7 lr))
  (nc:aC (I.room hC 11) j7 (lr+1)=some (ad nU))
  (nd:aC (I.room hC 11) r (0+1)=some (.str dX))
  (oH:arith .add .i64 (.ofNat nU) (.ofNat dX.length)=some (ad nf))
  (qw:aJ.storeCells (I.room hC 11) j7 (lr+1) [ad nf]=some xb):
  a0 an Tryz.f37 none call [1,1,0,1] (az [(1,af q),(2,af r),(3,ax c)] h) (.nrm)
   (az [(1,af q),(2,af r)] xb):=
 bA [1,2] (.c (.bool dm) aS::.b false::.c (.bool hL) cV::cY 2 0 [.v (.ptr aP aY),.v (.slice ba cd db uU),.c (ad dM) fV,.b false,.v (.ptr eu fH),.v (.slice hV hW iT G6),.v (.ptr hV (hW+dM*1)),.v (.str bS),.cU (.aF []) eM,.cU (.aF []) hC,.v (.ptr j7 lr),.v (ad nU),.v (.str dX),.v (ad nf),.cU (.aF []) xb]) 256 72 0x2030405060708090a0b0c0d0e0f101112110b11131113141514151617160c181918191a0d1a0d1b1c1b0e1d1e1f2021222324252621262728292a221f202b232c2d2e2426272829 (dN H1 a4 bh bx bW cA c2 di (by kernel_rfl:cz dM 0=false)<|dN eE g3 (⟨hp,rfl⟩:Nat.le (Nat.succ dM) iT/\aa.ptr hV (hW+dM*1)=aa.ptr hV (hW+dM*1)) hK (⟨by kernel_rfl,iJ,rfl⟩:some 1=some 1/\aJ.storeCells (I.room fV 11) r (0+0) [ad 5]=some eM/\aa.aF []=aa.aF []) (⟨by kernel_rfl,iK,rfl⟩:some 1=some 1/\aJ.storeCells eM r (0+1) [aa.str bS]=some hC/\aa.aF []=aa.aF []) (b4 (.ptr eu fH)) j6 (ck (.ptr eu fH))<|dN (b4 (.ptr eu (fH+3))) (ck (.ptr eu (fH+3))) (b4 (.slice hV hW iT G6)) kS (b4 (ad dM)) (ck (ad dM)) (b4 (.ptr hV (hW+dM*1))) (b4 (.str bS)) mb<|dN (b4 (.ptr r (0+0))) (ck (.ptr r (0+0))) (b4 (.ptr r (0+1))) (ck (.ptr r (0+1))) nb nc nd oH (⟨by kernel_rfl,qw,rfl⟩:some 1=some 1/\aJ.storeCells (I.room hC 11) j7 (lr+1) [ad nf]=some xb/\aa.aF []=aa.aF [])<|dN (b4 (.ptr j7 lr)) (ck (.ptr j7 lr)) (b4 (.ptr j7 (lr+1))) (ck (.ptr j7 (lr+1))) (b4 (ad nU)) (b4 (.str dX)) (b4 (ad dX.length)) (by kernel_rfl:o2 an (I.room hC 11) 9 (aa.str dX)=some (ad dX.length)) (b4 (ad nf)) bz)
theorem adT(q r p b n k x y:Nat)(t:List UInt8)(v:aa)(h g aS:I)
  (H1:aC (I.room h 11) q 0=some (af p))
  (a4:aC (I.room h 11) p (0+4)=some v)
  (bh:aJ.loadCells (I.room h 11) r 0 4=some [ad k,.str t,ad x,ad y])
  (bx:fi an (I.mk (fh.kB (I.n h+6+1) h.1 (I.n h+6) (some (b5.cells [ad k,aa.str t,ad x,ad y] 76 ff.own 0 0))) (I.n (I.room h 11))) 65 (some 65) v (aa.slice (I.n h+6) 0 1 (dn.exact 1))=some (aa.slice b 0 n (dn.aX 4),g))
  (bW:aJ.storeCells g p (0+4) [.slice b 0 n (.aX 4)]=some aS)
  (cA:aC g q 0=some (af p))
  (c2:aC (I.mk (fh.kB (I.n h+6+1) h.1 (I.n h+6) (some (aD [ad k,.str t,ad x,ad y] 76))) (I.n (I.room h 11))) q 0=some (af p))
  (di:aa.sound v=true:=by first|with_reducible assumption|rfl|exact LY.snd (by with_reducible assumption)|exact LY.DC (by with_reducible assumption)|exact LZ.snd (by with_reducible assumption)|exact LZ.DC (by with_reducible assumption)|exact L0.snd (by with_reducible assumption)|exact L0.DC (by with_reducible assumption))
  (eE:aC (I.mk (fh.kB (I.n h+6+1) h.1 (I.n h+6) (some (aD [ad k,.str t,ad x,ad y] 76))) (I.n (I.room h 11))) p (0+4)=some v)
  (g3:aJ.loadCells (I.mk (fh.kB (I.n h+6+1) h.1 (I.n h+6) (some (aD [ad k,.str t,ad x,ad y] 76))) (I.n (I.room h 11))) r 0 4=some [ad k,.str t,ad x,ad y]):
  a0 an Tryz.f37 none call [1,1,1] (az [(1,af q),(2,af r)] h) (.nrm)
   (az [] aS):=
 bA [] [.v (af p),.v (af p),.v v,.v (.agg [ad k,.str t,ad x,ad y]),.cU (.slice b 0 n (.aX 4)) g,.cU (.aF []) aS] 256 24 0x20203040506070807090709070a0b0c0d0e0f10070a0b0c (dN H1 a4 bh bx (⟨by kernel_rfl,bW,rfl⟩:some 1=some 1/\aJ.storeCells g p (0+4) [aa.slice b 0 n (dn.aX 4)]=some aS/\aa.aF []=aa.aF []) (b4 (af p)) cA c2 (ck (af p))<|qh (b4 (.ptr p (0+4))) (ck (.ptr p (0+4))) di eE (b4 (.agg [ad k,.str t,ad x,ad y])) g3 bz)
theorem adU(q r c p b n:Nat)(cp:dn)(v:aa)(h g al aw:I)(aP aY:Nat)
  (H1:call (.fn 73) [ax c] h=a8.ret (.bool false) g)
  (a4:call (.fn 76) [ax c] g=a8.ret (.bool true) al)
  (bh:aC al q 0=some (.ptr aP aY))
  (bx:call (.fn 78) [.ptr aP aY] al=a8.aK v aw):
  a0 an Tryz.f37 none call [1,1,0,1] (az [(1,af q),(2,af r),(3,ax c)] h) (.aK v)
   (az [] aw):=
 bA [] [.c (.bool false) g,.b false,.c (.bool true) al,.b true,.v (.ptr aP aY),.p v aw] 16 6 2175045 (jt H1 a4 bh bx bz)
theorem adV(q r c p b n:Nat)(cp:dn)(v:aa)(h g al aw:I)(aP aY:Nat)
  (H1:call (.fn 73) [ax c] h=a8.ret (.bool false) g)
  (a4:call (.fn 76) [ax c] g=a8.ret (.bool false) al)
  (bh:dA c 34=true)
  (bx:aC al q 0=some (.ptr aP aY))
  (bW:call (.fn 79) [.ptr aP aY] al=a8.aK v aw):
  a0 an Tryz.f37 none call [1,1,0,1] (az [(1,af q),(2,af r),(3,ax c)] h) (.aK v)
   (az [] aw):=
 bA [] (.c (.bool false) g::.b false::.c (.bool false) al::cY 2 1 [.v (.ptr aP aY),.p v aw]) 16 7 34804822 (nM H1 a4 bh bx bW bz)
theorem adW(q r c p b n:Nat)(cp:dn)(v:aa)(h g al aw:I)(aP aY ba:Nat)(gP:aa)(aS:I)
  (H1:call (.fn 73) [ax c] h=a8.ret (.bool false) g)
  (a4:call (.fn 76) [ax c] g=a8.ret (.bool false) al)
  (bh:dA c 34=false)
  (bx:aC al q 0=some (af p))
  (bW:aC al p (0+3)=some (.slice b 0 n cp))
  (cA:call (.fn 80) [.slice b 0 n cp,.fn 81 [] [af q]] al=a8.ret (.int .i64 (.negSucc 0)) aw)
  (c2:aC aw q 0=some (.ptr aP aY))
  (di:aC aw aP (aY+1)=some (ad ba))
  (eE:call (.fn 77) [ad ba] aw=a8.aK gP aS):
  a0 an Tryz.f37 none call [1,1,0,1] (az [(1,af q),(2,af r),(3,ax c)] h) (.aK gP)
   (az [] aS):=
 bA [] (.c (.bool false) g::.b false::.c (.bool false) al::cY 2 0 [.v (af p),.v (.slice b 0 n cp),.c (.int .i64 (-1)) aw,.b true,.v (.ptr aP aY),.v (ad ba),.p gP aS]) 16 12 36495501527467 (dN H1 a4 bh bx bW cA (by kernel_rfl:jZ (Int.negSucc 0) (Int.ofNat 0)=true) c2 di<|hU eE bz)
theorem adX(s t:List UInt8)(h:I)(dm:Bool)(aS:I)
  (H1:call (.fn 114) [.str s,.str t] h=a8.ret (.bool dm) aS):
  a0 an Tryz.f82 none call [] (az [(0,.str s),(1,.str t)] h) (.ret)
   (az [(4,.bool dm)] aS):=
 bA [4] [.c (.bool dm) aS] 16 1 2 (hU H1 bz)
theorem adY(s t:List UInt8)(h:I)(bS:List UInt8)
  (H1:eQ t.length s.length=true)
  (a4:kC an h 9 (aa.str s) none (some (ad t.length)) none=some (aa.str bS)):
  a0 an Tryz.f114 none call [] (az [(0,.str s),(1,.str t)] h) (.ret)
   (az [(4,.bool (gb bS t))] h):=
 bA [4] (cY 4 15 (.v (.str bS)::cY 3 7 [])) 16 8 572666402 (kP H1 a4 bz)
theorem adZ(s t:List UInt8)(h:I)
  (H1:eQ t.length s.length=false):
  a0 an Tryz.f114 none call [] (az [(0,.str s),(1,.str t)] h) (.ret)
   (az [(4,.bool false)] h):=
 bA [4] (cY 7 0 []) 16 7 35791394 (hU H1 bz)
theorem ad0(q:Nat)(t:List UInt8)(h:I)(aP aY:Nat)(bS:List UInt8)(ba:Nat)(dX:List UInt8)(dm:Bool)(aS:I)
  (H1:aC (I.room h 12) q 0=some (.ptr aP aY))
  (a4:aC (I.room h 12) aP (aY+0)=some (.str bS))
  (bh:aC (I.room h 12) aP (aY+1)=some (ad ba))
  (bx:kC an (I.room h 12) 9 (aa.str bS) (some (ad ba)) none none=some (aa.str dX))
  (bW:call (.fn 82) [.str dX,.str t] (I.room h 12)=a8.ret (.bool dm) aS):
  a0 an Tryz.f81 none call [] (az [(0,.str t),(1,af q)] h) (.ret)
   (az [(3,.bool dm)] aS):=
 bA [3] [.v (.ptr aP aY),.v (.str bS),.v (.ptr aP aY),.v (ad ba),.v (.str dX),.c (.bool dm) aS] 256 28 0x2030204050607020708090a0b03070207080c0d0e040f0510111213 (dN H1 a4 bh bx bW (b4 (.ptr aP aY)) (ck (.ptr aP aY)) (b4 (.ptr aP (aY+0))) (ck (.ptr aP (aY+0)))<|dN (b4 (.str bS)) (b4 (.ptr aP (aY+1))) (ck (.ptr aP (aY+1))) (b4 (ad ba)) (b4 (.str dX)) (b4 (.str t)) (ck (.str t)) (b4 (.bool dm)) (ck (.bool dm)) bz)
theorem ad1(q b n i:Nat)(cp:dn)(h:I)(bS:List UInt8)(dm:Bool)(aS:I)
  (H1:cz i n=true)
  (a4:Nat.le (Nat.succ i) n)
  (bh:aC h b (0+i*1)=some (.str bS))
  (bx:call (.fn 81) [.str bS,af q] h=a8.ret (.bool dm) aS)
  (bW:dm=true):
  a0 an Tryz.f80 none call [1,0,1,0,0] (az [(0,.slice b 0 n cp),(1,.fn 81 [] [af q]),(7,ad n),(8,ad i)] h) (.ret)
   (az [(0,.slice b 0 n cp),(1,.fn 81 [] [af q]),(4,ad i),(7,ad n),(8,ad i)] aS):=
 bA [0,1,4,7,8] [.b true,.v (.ptr b (0+i*1)),.v (.str bS),.c (.bool dm) aS,.b true] 16 5 144470 (nM H1 (⟨a4,rfl⟩:Nat.le (Nat.succ i) n/\aa.ptr b (0+i*1)=aa.ptr b (0+i*1)) bh bx bW bz)
theorem ad2(q b n i:Nat)(cp:dn)(h:I)(bS:List UInt8)(dm:Bool)(aS:I)(aP:Nat)
  (H1:cz i n=true)
  (a4:Nat.le (Nat.succ i) n)
  (bh:aC h b (0+i*1)=some (.str bS))
  (bx:call (.fn 81) [.str bS,af q] h=a8.ret (.bool dm) aS)
  (bW:dm=false)
  (cA:arith .add .i64 (.ofNat i) (.ofNat 1)=some (ad aP)):
  a0 an Tryz.f80 none call [1,0,1,0,0] (az [(0,.slice b 0 n cp),(1,.fn 81 [] [af q]),(7,ad n),(8,ad i)] h) (.nrm)
   (az [(0,.slice b 0 n cp),(1,.fn 81 [] [af q]),(7,ad n),(8,ad aP)] aS):=
 bA [0,1,4,7,8] [.b true,.v (.ptr b (0+i*1)),.v (.str bS),.c (.bool dm) aS,.b false,.v (ad aP)] 16 6 2311527 (qh H1 (⟨a4,rfl⟩:Nat.le (Nat.succ i) n/\aa.ptr b (0+i*1)=aa.ptr b (0+i*1)) bh bx bW cA bz)
theorem ad3(q b n i:Nat)(cp:dn)(h:I)
  (H1:cz i n=false):
  a0 an Tryz.f80 none call [1,0,1,0,0] (az [(0,.slice b 0 n cp),(1,.fn 81 [] [af q]),(7,ad n),(8,ad i)] h) (.exit 0)
   (az [(0,.slice b 0 n cp),(1,.fn 81 [] [af q]),(7,ad n),(8,ad i)] h):=
 bA [0,1,4,7,8] [.b false] 16 1 2 (hU H1 bz)
theorem ad4(q b n:Nat)(cp:dn)(h g:I)(i:Nat)
  (H1:a0 an Tryz.f80 none call [1,0,1,0] (az [(8,ad 0),(7,ad n),(4,ad 0),(0,.slice b 0 n cp),(1,.fn 81 [] [af q])] h) (.ret) (az [(4,ad i)] g)):
  a0 an Tryz.f80 none call [] (az [(0,.slice b 0 n cp),(1,.fn 81 [] [af q])] h) (.ret)
   (az [(4,ad i)] g):=
 bA [4] [Hint.loop cl.ret (bD.mk [(4,ad i)] [] cm.none g)] 16 1 2 (hU H1 bz)
theorem ad5(q b n:Nat)(cp:dn)(h g:I)
  (H1:a0 an Tryz.f80 none call [1,0,1,0] (az [(8,ad 0),(7,ad n),(4,ad 0),(0,.slice b 0 n cp),(1,.fn 81 [] [af q])] h) (.exit 0) (az [] g)):
  a0 an Tryz.f80 none call [] (az [(0,.slice b 0 n cp),(1,.fn 81 [] [af q])] h) (.ret)
   (az [(4,.int .i64 (.negSucc 0))] g):=
 bA [4] [Hint.loop (cl.exit 0) (bD.mk [] [] cm.none g)] 16 1 2 (hU H1 bz)
theorem ad6(s:List UInt8)(h:I):
  a0 an Tryz.f18 none call [0] (az [(0,.str s)] h) (.nrm)
   (az [(0,.str s),(2,af (I.n h)),(3,.ptr (I.n (I.push h (aD [.ao] 65))) 0)] (I.push (I.push h (aD [.ao] 65)) (aD [.c3] 26))):=
 bA [0,2,3] [] 16 0 0 bz
theorem ad7(s:List UInt8)(a b m c n:Nat)(cp:dn)(h g al:I)
  (H1:call (.fn 33) [] h=a8.ret (.map m) g)
  (a4:call (.fn 34) [] g=a8.ret (.slice c 0 n cp) al):
  a0 an Tryz.f18 none call [1,0] (az [(0,.str s),(2,af a),(3,af b)] h) (.nrm)
   (az [(0,.str s),(2,af a),(3,af b),(4,af (I.n al))] (I.push al (aD [.str s,ad 0,.map m,.slice c 0 n cp,.ao] 97))):=
 bA [0,2,3,4] [.c (.map m) g,.c (.slice c 0 n cp) al] 16 2 35 (kP H1 a4 bz)
theorem ad8(s:List UInt8)(a b p:Nat)(h:I):
  a0 an Tryz.f18 none call [1,1,0] (az [(0,.str s),(2,af a),(3,af b),(4,af p)] h) (.nrm)
   (bD.mk [(0,.str s),(2,af a),(3,af b),(4,af p)] [.call 35 [af a,af b]] .none h):=
 bA [0,2,3,4] [] 16 0 0 bz
theorem ad9(s:List UInt8)(a b p:Nat)(d:List cc)(h:I)(aP aY ba:Nat)(aS:I)
  (H1:aC h p (0+1)=some (ad aP))
  (a4:cz aP s.length=true)
  (bh:eJ aP s=some (ax aY))
  (bx:dA aY 32=true)
  (bW:arith .add .i64 (.ofNat aP) (.ofNat 1)=some (ad ba))
  (cA:aJ.storeCells h p (0+1) [ad ba]=some aS):
  a0 an Tryz.f18 none call [1,1,1,0,0,0] (bD.mk [(0,.str s),(2,af a),(3,af b),(4,af p)] d .none h) (.nrm)
   (bD.mk [(0,.str s),(2,af a),(3,af b),(4,af p)] d .none aS):=
 bA [0,2,3,4] (.v (ad aP)::.b true::.v (ad aP)::.v (ax aY)::cY 2 3 [.v (ad aP),.v (ad ba),.cU (.aF []) aS]) 16 9 9433338471 (qh H1 a4 bh bx bW (⟨by kernel_rfl,cA,rfl⟩:some 1=some 1/\aJ.storeCells h p (0+1) [ad ba]=some aS/\aa.aF []=aa.aF []) bz)
theorem ad_(s:List UInt8)(a b p:Nat)(d:List cc)(h:I)(aP aY ba:Nat)(aS:I)
  (H1:aC h p (0+1)=some (ad aP))
  (a4:cz aP s.length=true)
  (bh:eJ aP s=some (ax aY))
  (bx:dA aY 32=false)
  (bW:dA aY 9=true)
  (cA:arith .add .i64 (.ofNat aP) (.ofNat 1)=some (ad ba))
  (c2:aJ.storeCells h p (0+1) [ad ba]=some aS):
  a0 an Tryz.f18 none call [1,1,1,0,0,0] (bD.mk [(0,.str s),(2,af a),(3,af b),(4,af p)] d .none h) (.nrm)
   (bD.mk [(0,.str s),(2,af a),(3,af b),(4,af p)] d .none aS):=
 bA [0,2,3,4] (.v (ad aP)::.b true::.v (ad aP)::.v (ax aY)::cY 3 3 [.v (ad aP),.v (ad ba),.cU (.aF []) aS]) 16 10 150933496440 (AJ H1 a4 bh bx bW cA (⟨by kernel_rfl,c2,rfl⟩:some 1=some 1/\aJ.storeCells h p (0+1) [ad ba]=some aS/\aa.aF []=aa.aF []) bz)
theorem aea(s:List UInt8)(a b p:Nat)(d:List cc)(h:I)(aP aY ba:Nat)(aS:I)
  (H1:aC h p (0+1)=some (ad aP))
  (a4:cz aP s.length=true)
  (bh:eJ aP s=some (ax aY))
  (bx:dA aY 32=false)
  (bW:dA aY 9=false)
  (cA:dA aY 10=true)
  (c2:arith .add .i64 (.ofNat aP) (.ofNat 1)=some (ad ba))
  (di:aJ.storeCells h p (0+1) [ad ba]=some aS):
  a0 an Tryz.f18 none call [1,1,1,0,0,0] (bD.mk [(0,.str s),(2,af a),(3,af b),(4,af p)] d .none h) (.nrm)
   (bD.mk [(0,.str s),(2,af a),(3,af b),(4,af p)] d .none aS):=
 bA [0,2,3,4] (.v (ad aP)::.b true::.v (ad aP)::.v (ax aY)::cY 4 3 [.v (ad aP),.v (ad ba),.cU (.aF []) aS]) 16 11 2414936027785 (pq H1 a4 bh bx bW cA c2 (⟨by kernel_rfl,di,rfl⟩:some 1=some 1/\aJ.storeCells h p (0+1) [ad ba]=some aS/\aa.aF []=aa.aF []) bz)
theorem aeb(s:List UInt8)(a b p:Nat)(d:List cc)(h:I)(aP aY ba:Nat)(aS:I)
  (H1:aC h p (0+1)=some (ad aP))
  (a4:cz aP s.length=true)
  (bh:eJ aP s=some (ax aY))
  (bx:dA aY 32=false)
  (bW:dA aY 9=false)
  (cA:dA aY 10=false)
  (c2:dA aY 13=true)
  (di:arith .add .i64 (.ofNat aP) (.ofNat 1)=some (ad ba))
  (eE:aJ.storeCells h p (0+1) [ad ba]=some aS):
  a0 an Tryz.f18 none call [1,1,1,0,0,0] (bD.mk [(0,.str s),(2,af a),(3,af b),(4,af p)] d .none h) (.nrm)
   (bD.mk [(0,.str s),(2,af a),(3,af b),(4,af p)] d .none aS):=
 bA [0,2,3,4] (.v (ad aP)::.b true::.v (ad aP)::.v (ax aY)::cY 4 1 [.v (ad aP),.v (ad ba),.cU (.aF []) aS]) 16 11 2414936031898 (dN H1 a4 bh bx bW cA c2 di (⟨by kernel_rfl,eE,rfl⟩:some 1=some 1/\aJ.storeCells h p (0+1) [ad ba]=some aS/\aa.aF []=aa.aF []) bz)
theorem aec(s:List UInt8)(a b p:Nat)(d:List cc)(h:I)(aP aY:Nat)(aS:I)
  (H1:aC h p (0+1)=some (ad aP))
  (a4:cz aP s.length=true)
  (bh:eJ aP s=some (ax aY))
  (bx:dA aY 32=false)
  (bW:dA aY 9=false)
  (cA:dA aY 10=false)
  (c2:dA aY 13=false)
  (di:dA aY 35=true)
  (eE:call (.fn 36) [af p] h=a8.ret (.aF []) aS):
  a0 an Tryz.f18 none call [1,1,1,0,0,0] (bD.mk [(0,.str s),(2,af a),(3,af b),(4,af p)] d .none h) (.nrm)
   (bD.mk [(0,.str s),(2,af a),(3,af b),(4,af p)] d .none aS):=
 bA [0,2,3,4] (.v (ad aP)::.b true::.v (ad aP)::.v (ax aY)::cY 5 1 [.c (.aF []) aS]) 16 10 150933502106 (dN H1 a4 bh bx bW cA c2 di eE bz)
theorem aed(s:List UInt8)(a b p:Nat)(d:List cc)(h:I)(aP aY:Nat)(aS:I)
  (H1:aC h p (0+1)=some (ad aP))
  (a4:cz aP s.length=true)
  (bh:eJ aP s=some (ax aY))
  (bx:dA aY 32=false)
  (bW:dA aY 9=false)
  (cA:dA aY 10=false)
  (c2:dA aY 13=false)
  (di:dA aY 35=false)
  (eE:call (.fn 37) [af p] h=a8.ret (.aF []) aS):
  a0 an Tryz.f18 none call [1,1,1,0,0,0] (bD.mk [(0,.str s),(2,af a),(3,af b),(4,af p)] d .none h) (.nrm)
   (bD.mk [(0,.str s),(2,af a),(3,af b),(4,af p)] d .none aS):=
 bA [0,2,3,4] (.v (ad aP)::.b true::.v (ad aP)::.v (ax aY)::cY 5 0 [.c (.aF []) aS]) 16 10 150933502106 (dN H1 a4 bh bx bW cA c2 di eE bz)
theorem Sn(s:List UInt8)(a b p:Nat)(d:List cc)(h:I)(aP:Nat)
  (H1:aC h p (0+1)=some (ad aP))
  (a4:cz aP s.length=false):
  a0 an Tryz.f18 none call [1,1,1,0,0,0] (bD.mk [(0,.str s),(2,af a),(3,af b),(4,af p)] d .none h) (.exit 0)
   (bD.mk [(0,.str s),(2,af a),(3,af b),(4,af p)] d .none h):=
 bA [0,2,3,4] [.v (ad aP),.b false] 16 2 35 (kP H1 a4 bz)
theorem aee(s:List UInt8)(a b p:Nat)(v:aa)(d:List cc)(h g:I)(aP aY:Nat)
  (H1:aC h p (0+1)=some (ad aP))
  (a4:cz aP s.length=true)
  (bh:eJ aP s=some (ax aY))
  (bx:dA aY 32=false)
  (bW:dA aY 9=false)
  (cA:dA aY 10=false)
  (c2:dA aY 13=false)
  (di:dA aY 35=true)
  (eE:call (.fn 36) [af p] h=a8.aK v g):
  a0 an Tryz.f18 none call [1,1,1,0,0,0] (bD.mk [(0,.str s),(2,af a),(3,af b),(4,af p)] d .none h) (.aK v)
   (bD.mk [(0,.str s),(2,af a),(3,af b),(4,af p)] d .none g):=
 bA [0,2,3,4] (.v (ad aP)::.b true::.v (ad aP)::.v (ax aY)::cY 5 1 [.p v g]) 16 10 150933502106 (dN H1 a4 bh bx bW cA c2 di eE bz)
theorem aef(s:List UInt8)(a b p:Nat)(v:aa)(d:List cc)(h g:I)(aP aY:Nat)
  (H1:aC h p (0+1)=some (ad aP))
  (a4:cz aP s.length=true)
  (bh:eJ aP s=some (ax aY))
  (bx:dA aY 32=false)
  (bW:dA aY 9=false)
  (cA:dA aY 10=false)
  (c2:dA aY 13=false)
  (di:dA aY 35=false)
  (eE:call (.fn 37) [af p] h=a8.aK v g):
  a0 an Tryz.f18 none call [1,1,1,0,0,0] (bD.mk [(0,.str s),(2,af a),(3,af b),(4,af p)] d .none h) (.aK v)
   (bD.mk [(0,.str s),(2,af a),(3,af b),(4,af p)] d .none g):=
 bA [0,2,3,4] (.v (ad aP)::.b true::.v (ad aP)::.v (ax aY)::cY 5 0 [.p v g]) 16 10 150933502106 (dN H1 a4 bh bx bW cA c2 di eE bz)
theorem aeg(s:List UInt8)(a b p c n i:Nat)(v:aa)(d:List cc)(h g aS cV:I)
  (H1:aC (I.room h 13) p (0+4)=some v)
  (a4:aC (I.room h 13) p (0+1)=some (ad i))
  (bh:fi an (I.mk (fh.kB (I.n h+9+1) h.1 (I.n h+9) (some (b5.cells [ad 0,aa.str [],ad 0,ad i] 76 ff.own 0 0))) (I.n (I.room h 13))) 65 (some 65) v (aa.slice (I.n h+9) 0 1 (dn.exact 1))=some (aa.slice c 0 n (dn.aX 4),g))
  (bx:aJ.storeCells g a 0 [.slice c 0 n (.aX 4)]=some aS)
  (bW:aJ.storeCells aS b 0 [.c3]=some cV)
  (cA:aa.sound v=true:=by first|with_reducible assumption|rfl|exact LY.snd (by with_reducible assumption)|exact LY.DC (by with_reducible assumption)|exact LZ.snd (by with_reducible assumption)|exact LZ.DC (by with_reducible assumption)|exact L0.snd (by with_reducible assumption)|exact L0.DC (by with_reducible assumption))
  (c2:aC (I.mk (fh.kB (I.n h+9+1) h.1 (I.n h+9) (some (aD [ad 0,.str [],ad 0,ad i] 76))) (I.n (I.room h 13))) p (0+4)=some v)
  (di:aC (I.mk (fh.kB (I.n h+9+1) h.1 (I.n h+9) (some (aD [ad 0,.str [],ad 0,ad i] 76))) (I.n (I.room h 13))) p (0+1)=some (ad i)):
  a0 an Tryz.f18 none call [1,1,1,1] (bD.mk [(0,.str s),(2,af a),(3,af b),(4,af p)] d .none h) (.ret)
   (bD.mk [(2,af a),(3,af b)] d .none cV):=
 bA [2,3] [.v v,.v (ad i),.cU (.slice c 0 n (.aX 4)) g,.cU (.aF []) aS,.cU (.aF []) cV] 256 23 0x20304050607080708090a0b0c070807080d0e0f101112 (dN H1 a4 bh (⟨by kernel_rfl,bx,rfl⟩:some 1=some 1/\aJ.storeCells g a 0 [aa.slice c 0 n (dn.aX 4)]=some aS/\aa.aF []=aa.aF []) (⟨by kernel_rfl,bW,rfl⟩:some 1=some 1/\aJ.storeCells aS b 0 [aa.c3]=some cV/\aa.aF []=aa.aF []) (b4 (af p)) (ck (af p)) (b4 (.ptr p (0+4))) (ck (.ptr p (0+4)))<|pq cA c2 (b4 (.ptr p (0+1))) (ck (.ptr p (0+1))) (b4 (ad i)) di (b4 (.agg [ad 0,.str [],ad 0,ad i])) (ck (.agg [ad 0,.str [],ad 0,ad i])) bz)
theorem aeh(a b p:Nat)(h aS cV:I)
  (H1:aJ.storeCells (I.room h 5) a 0 [.ao]=some aS)
  (a4:aJ.storeCells aS b 0 [aa.iface 68 (aa.ptr p 0)]=some cV):
  a0 an Tryz.f35 none call [] (bD.mk [(0,af a),(1,af b)] [] (.act (.iface 68 (af p))) h) (.nrm)
   (bD.mk [] [] (.done (.iface 68 (af p))) cV):=
 bA [] [.v (.bool !false),.b true,.cU (.aF []) aS,.cU (.aF []) cV] 16 16 0x2345676789896767 (pq (by kernel_rfl:hs an h BinOp.neq 20 (Operand.tmp 4) (Operand.const Value.nilIface) (aa.iface 68 (aa.ptr p 0)) aa.c3=some (aa.bool !false)) (by kernel_rfl:(!false)=true) (⟨by kernel_rfl,H1,rfl⟩:some 1=some 1/\aJ.storeCells (I.room h 5) a 0 [aa.ao]=some aS/\aa.aF []=aa.aF []) (⟨by kernel_rfl,a4,rfl⟩:some 1=some 1/\aJ.storeCells aS b 0 [aa.iface 68 (aa.ptr p 0)]=some cV/\aa.aF []=aa.aF []) (b4 (.iface 68 (af p))) (ck (.iface 68 (af p))) (b4 (af p)) (ck (af p)) bz)
theorem aei(a b:Nat)(h:I):
  a0 an Tryz.f35 none call [] (az [(0,af a),(1,af b)] h) (.nrm)
   (az [] h):=
 bA [] [.v (.bool !true),.b false] 16 2 35 (kP (by kernel_rfl:hs an h BinOp.neq 20 (Operand.tmp 4) (Operand.const Value.nilIface) aa.c3 aa.c3=some (aa.bool !true)) (by kernel_rfl:(!true)=false) bz)
theorem L1{u:List UInt8}(h:ec u≠0):(dS u).2=ec u:=by
 rcases uQ u with⟨J,_⟩|⟨J,b,t,_,_,aQ⟩|⟨_,c,ae,_⟩
 · exact absurd J h
 · rw[aQ,J]
 · rw[ae]
theorem So(u:List UInt8):l_ (dS u).1=true:=by
 rcases uQ u with⟨_,J⟩|⟨_,b,t,_,aq,aQ⟩|⟨_,c,ae,_,_,bj,_⟩
 · rw[J];decide
 · rw[aQ,qt];simp only;omega
 · rw[ae];exact bj
theorem aej(m p it a:Nat)(s L:List UInt8)(w dj o:aa)(ah:s.length<=90000)(a3:7<=p)(alJ:p<it):∀(f i:Nat) (x:I),(line (s.drop (a+i))).length<=f->a+i<=s.length->x.get p=some (fl s a w dj o)->x.get it=some (.fp (line (s.drop (a+i))) i)->gH x dL=true->it<x.n->
  ((jT f (s.drop (a+i)) i).1=true->∃k et,k<=(line (s.drop (a+i))).length+1/\eP an Tryz.f36 none (C (m+3)) [1,0,1,0] k ⟨[(0,.ptr p 0),(2,.str L),(8,.ptr it 0)],[],.none,x⟩ (.exit 0) ⟨[(0,.ptr p 0),(2,.str L),(8,.ptr it 0)],[],.none,et⟩/\bU it x.n x et)/\
  ((jT f (s.drop (a+i)) i).1=false->∃k v et,k<=(line (s.drop (a+i))).length+1/\eP an Tryz.f36 none (C (m+3)) [1,0,1,0] k ⟨[(0,.ptr p 0),(2,.str L),(8,.ptr it 0)],[],.none,x⟩ (.aK v) ⟨[],[],.none,et⟩/\qA v (a+(jT f (s.drop (a+i)) i).2) x et/\bU it x.n x et):=by
 intro f
 induction f with
 |zero=>
  intro i x aM hi G7 qB aI aT
  have aA:line (s.drop (a+i))=[]:=List.eq_nil_of_length_eq_zero (by omega)
  rw[GV _ _ _ aA,aA]
  rw[aA] at qB
  exact⟨λ_=>⟨1,x,by simp,.exit (R2 (C (m+3)) p it L x x (Ba qB)) (by simp),bU.refl _ _ _⟩,λh=>(by cases h)⟩
 |succ f bM=>
  intro i x aM hi G7 qB aI aT
  by_cases aA:line (s.drop (a+i))=[]
  · rw[GV _ _ _ aA,aA]
    rw[aA] at qB
    exact⟨λ_=>⟨1,x,by simp,.exit (R2 (C (m+3)) p it L x x (Ba qB)) (by simp),bU.refl _ _ _⟩,λh=>(by cases h)⟩
  · obtain⟨U,fY⟩:∃U,s.drop (a+i)=U:=⟨_,rfl⟩
    have cf:a+i<s.length:=by
     rcases Nat.lt_or_ge (a+i) s.length with h|h
     · exact h
     · rw[List.drop_eq_nil_of_le h] at aA;exact absurd rfl aA
    obtain⟨a9,cI⟩:=Sj m p a (a+i) s w dj o (x.set it (some (.fp ((line (s.drop (a+i))).drop (dS (s.drop (a+i))).2) (i+(dS (s.drop (a+i))).2))))
     (nT aI λb ag=>cr (by omega) rfl) (cr (by omega) G7) ah cf
    rw[fY] at aA qB aM a9 cI⊢
    cases U with
    |nil=>exact absurd rfl aA
    |cons b t=>
     have ag:¬b.toNat=10:=λe=>aA (w4 e t)
     rw[RJ ag]
     have kL:=w9 (b:=b) (t:=line t) (by rw[<-sD ag];exact qB)
     rw[Lj,<-sD ag] at kL
     have j8:aC (x.set it (some (.fp ((line (b::t)).drop (dS (b::t)).2) (i+(dS (b::t)).2)))) p (0+1)=some (ad a):=aN (cr (by omega) G7) rfl
     have rC:=nL (i:=a) (j:=i) (by omega)
     have xs:bU it x.n x (x.set it (some (.fp ((line (b::t)).drop (dS (b::t)).2) (i+(dS (b::t)).2)))):=bU.set _
     cases ak:ec (b::t) with
     |zero=>
      obtain⟨v,g,aO,aZ,bC⟩:=cI ak
      refine⟨λh=>(by cases h),λ_=>⟨1,v,g,by omega,?_,aZ,xs.trans (Nat.le_refl _) (bC.eb it)⟩⟩
      exact .exit (dU.post (ac4 (C (m+3)) p it i _ 0 0 L v x _ g _ _ kL j8 rC aO) trivial) (by simp)
     |succ n=>
      obtain⟨g,aO,bC⟩:=a9 (by rw[ak];omega)
      have ae:=L1 (u:=b::t) (by rw[ak];omega)
      rw[ak] at ae
      have eF:=GU (t:=t) ag
      rw[ak] at eF
      have yx:=AZ (n+1) (b::t) eF
      have sg:(b::t).drop (n+1)=s.drop (a+(i+(n+1))):=by rw[<-fY,List.drop_drop,Nat.add_assoc]
      have aek:g.get it=some (.fp (line (s.drop (a+(i+(n+1))))) (i+(n+1))):=by
       rw[bC.get it (by simpa using aT),<-sg,<-yx,ae]
       exact dz rfl
      have ael:g.get p=some (fl s a w dj o):=(bC.get p (by simp;omega)).trans (cr (by omega) G7)
      have aem:gH g dL=true:=nT aI λb ag=>(bC.get b (by simp;omega)).trans (cr (by omega) rfl)
      have FL:x.n<=g.n:=bC.n
      have hlen:(line (s.drop (a+(i+(n+1))))).length+(n+1)=(line (b::t)).length:=by
       rw[<-sg,<-yx,List.length_drop];omega
      have h9:a+(i+(n+1))<=s.length:=by
       have bj:(line (b::t)).length<=(b::t).length:=(List.takeWhile_prefix (l:=b::t) qu).length_le
       have cW:(b::t).length=s.length-(a+i):=by rw[<-fY,List.length_drop]
       omega
      obtain⟨i1,i2⟩:=bM (i+(n+1)) g (by omega) h9 ael aek aem (by omega)
      have st:=acV (C (m+3)) p it i _ L x _ _ _ g kL j8 rC aO
      have gn:bU it x.n x g:=xs.trans (Nat.le_refl _) (bC.eb it)
      simp only
      rw[sg]
      refine⟨λh=>?_,λh=>?_⟩
      · obtain⟨k,et,aV,aU,bu⟩:=i1 h
        exact⟨k+1,et,by omega,.step st aU,gn.trans FL bu⟩
      · obtain⟨k,v,et,aV,aU,⟨e,e7,gL,nh,qC⟩,bu⟩:=i2 h
        exact⟨k+1,v,et,by omega,.step st aU,⟨e,e7,gL,by omega,qC⟩,gn.trans FL bu⟩
theorem aen(m p a:Nat)(s:List UInt8)(w dj o:aa)(h:I)(aI:gH h dL=true)(aB:h.get p=some (fl s a w dj o))(ah:s.length<=80000)(a_:a<=s.length)(a3:7<=p/\p<h.n)(f:Nat)(aM:(line (s.drop a)).length<=f):
  ((jT f (s.drop a) 0).1=true->∃ay,C (m+7) (.fn 36) [.ptr p 0] h=.ret (.aF []) ay/\ay.get p=some (fl s (a+(jT f (s.drop a) 0).2) w dj o)/\bU p h.n h ay)/\
  ((jT f (s.drop a) 0).1=false->∃v ay,C (m+7) (.fn 36) [.ptr p 0] h=.aK v ay/\qA v (a+(jT f (s.drop a) 0).2) h ay/\bU p h.n h ay):=by
 obtain⟨g,a9,bb⟩:=Si m p a s w dj o h aB (by omega) a_
 have aeo:g.get p=some (fl s a w dj o):=(bb.get p a3.2).trans aB
 have aT:=bb.n
 obtain⟨H,g1⟩:∃H,H=g.push (.fp (line (s.drop a)) 0):=⟨_,rfl⟩
 have oL:H.get p=some (fl s a w dj o):=by rw[g1];exact gN (by omega) aeo
 have y9:H.get g.n=some (.fp (line (s.drop (a+0))) 0):=by rw[g1];exact dx rfl
 have aep:gH H dL=true:=by rw[g1];exact nT aI λb ag=>gN (by omega) (bb.get b (by omega))
 have G8:H.n=g.n+1:=by rw[g1];rfl
 obtain⟨fw,gw⟩:=aej (m+3) p g.n a s (line (s.drop a)) w dj o (by omega) a3.1 (by omega) f 0 H aM a_ oL y9 aep (by omega)
 have Bb:(line (s.drop a)).length<=s.length:=by
  have bj:(line (s.drop a)).length<=(s.drop a).length:=(List.takeWhile_prefix (l:=s.drop a) qu).length_le
  rw[List.length_drop] at bj;omega
 have az:a0 an Tryz.f36 none (C (m+6)) [0] ⟨[(0,.ptr p 0)],[],.none,h⟩ .nrm ⟨[(0,.ptr p 0),(2,.str (line (s.drop a)))],[],.none,g⟩:=acS (C (m+6)) p _ h g a9
 have s1:=acT (C (m+6)) p (line (s.drop a)) g
 have Sp:Ext h.n h H:=by rw[g1];exact Ext.k4 aT bb
 rw[<-g1] at s1
 refine⟨λaj=>?_,λaj=>?_⟩
 · obtain⟨k,et,aV,aU,bu⟩:=fw aj
   have ho:=eP.run (p:=[1,0,1,0]) (by kernel_rfl) aU (by simp only[Nat.add_zero] at aV;omega)
   have DD:et.get p=some (fl s a w dj o):=(bu.get p (by omega) (by omega)).trans oL
   have he:=RK f (s.drop a) 0 aM aj
   have s2:=acU (C (m+6)) p (line (s.drop a)) et a _ _ (aN DD rfl) (nL (i:=a) (j:=(line (s.drop a)).length) (by omega)) (cy DD rfl rfl)
   have dD:=gG [] az (gG [1] (gG [1,0] s1 (a0.block (p:=[1,0,1]) (id:=0) (by kernel_rfl) ho)) (dU.pre s2 ⟨rfl,rfl,trivial⟩ rfl rfl rfl))
   rw[he,Nat.zero_add]
   refine⟨_,eI (intr:=eD) (n:=m+6) (args:=[.ptr p 0]) Tryz.func36 dD (.inr rfl) (by kernel_rfl),dz rfl,⟨by have:=bu.n;simp;omega,λb ag e9=>cr e9 ((bu.get b (by omega) (by omega)).trans (Sp.get b ag))⟩⟩
 · obtain⟨k,v,et,aV,aU,⟨e,e7,gL,nh,qC⟩,bu⟩:=gw aj
   have ho:=eP.run (p:=[1,0,1,0]) (by kernel_rfl) aU (by simp only[Nat.add_zero] at aV;omega)
   have dD:=gG [] az (AK [1] (gG [1,0] s1 (a0.qc (p:=[1,0,1]) (id:=0) (by kernel_rfl) ho (by simp))) (by simp))
   exact⟨v,et,ow (intr:=eD) (n:=m+6) (args:=[.ptr p 0]) Tryz.func36 (by kernel_rfl) rfl (by kernel_rfl) dD,⟨e,e7,gL,by omega,qC⟩,⟨by have:=bu.n;omega,λb ag e9=>(bu.get b (by omega) (by omega)).trans (Sp.get b ag)⟩⟩
theorem qy.ext{ay:I}{w:List UInt8}(ag:qy B b h w)(aT:h.n<=ay.n)(ai:∀c,c<h.n->(c=b\/B<=c)->ay.get c=h.get c):qy B b ay w:=by
 obtain⟨a,v,J,ae,aq,aQ,bj,cW⟩:=ag
 exact⟨a,v,(ai b (by omega) (.inl rfl)).trans J,ae,aq.ext aT λc ak xQ=>ai c xQ (.inr ak),aQ,by omega,cW⟩
structure mL(p b it B:Nat)(x et:I):Prop where
 n:x.n<=et.n
 get:∀c,c<B->c≠p->c≠b->c≠it->et.get c=x.get c
theorem mL.refl(p b it B:Nat)(x:I):mL p b it B x x:=⟨Nat.le_refl _,λ_ _ _ _ _=>rfl⟩
theorem mL.trans{p:Nat}{z:I}(J:mL p b it B x y)(ae:mL p b it B y z):mL p b it B x z:=⟨Nat.le_trans J.n ae.n,λc ak aq aQ bj=>(ae.get c ak aq aQ bj).trans (J.get c ak aq aQ bj)⟩
def rD(m p b it B a:Nat)(s L:List UInt8)(w dj o:aa)(c_:Bool)(K:Nat)(x:I):y2->Prop
 |.ok t n=>∃k et,k<=K/\eP an Tryz.f79 none (C (m+6)) [1,1,1,0,1,0] k ⟨[(0,.ptr p 0),(3,.ptr b 0),(4,.str L),(5,.bool c_),(13,.ptr it 0)],[],.none,x⟩ .ret ⟨[(2,.str t)],[],.none,et⟩/\et.get p=some (fl s (a+n) w dj o)/\mL p b it B x et
 |.bad n=>(∃k v et,k<=K/\eP an Tryz.f79 none (C (m+6)) [1,1,1,0,1,0] k ⟨[(0,.ptr p 0),(3,.ptr b 0),(4,.str L),(5,.bool c_),(13,.ptr it 0)],[],.none,x⟩ (.aK v) ⟨[],[],.none,et⟩/\qA v (a+n) x et/\mL p b it B x et)\/
   (∃k e et,k<=K/\eP an Tryz.f79 none (C (m+6)) [1,1,1,0,1,0] k ⟨[(0,.ptr p 0),(3,.ptr b 0),(4,.str L),(5,.bool c_),(13,.ptr it 0)],[],.none,x⟩ (.exit 0) ⟨[(0,.ptr p 0),(4,.str L),(5,.bool e)],[],.none,et⟩/\(if e then n+1=L.length else n=0)/\et.get p=some (fl s a w dj o)/\mL p b it B x et)
theorem rD.step{m p:Nat}{L:List UInt8}{c_ aG:Bool}{K:Nat}{r:y2}
  (st:a0 an Tryz.f79 none (C (m+6)) [1,1,1,0,1,0,0] ⟨[(0,.ptr p 0),(3,.ptr b 0),(4,.str L),(5,.bool c_),(13,.ptr it 0)],[],.none,x⟩ .nrm ⟨[(0,.ptr p 0),(3,.ptr b 0),(4,.str L),(5,.bool aG),(13,.ptr it 0)],[],.none,y⟩)(dy:mL p b it B x y)
  (h:rD m p b it B a s L w dj o aG K y r):rD m p b it B a s L w dj o c_ (K+1) x r:=by
 cases r with
 |ok t n=>
  obtain⟨k,et,J,ae,aq,aQ⟩:=h
  exact⟨k+1,et,by omega,.step st ae,aq,dy.trans aQ⟩
 |bad n=>
  rcases h with⟨k,v,et,J,ae,⟨e,e7,gL,nh,qC⟩,aQ⟩|⟨k,e,et,J,ae,aq,aQ,bj⟩
  · exact .inl ⟨k+1,v,et,by omega,.step st ae,⟨e,e7,gL,by have:=dy.n;omega,qC⟩,dy.trans aQ⟩
  · exact .inr ⟨k+1,e,et,by omega,.step st ae,aq,aQ,dy.trans bj⟩
structure rE(p b it B a i:Nat)(s out:List UInt8)(w dj o:aa)(x:I):Prop where
 dO:x.get p=some (fl s a w dj o)
 y9:x.get it=some (.fp (line (s.drop (a+i))) i)
 eW:gH x dL=true
 qg:qy B b x out
 nx:B<=x.n
theorem rE.Sq{p j:Nat}{out:List UInt8}(h:rE p b it B a i s out w dj o x)(a3:7<=p)(J:p<b)(ae:b<it)(aq:it<B){l:List UInt8}(aA:l=line (s.drop (a+j))):rE p b it B a j s out w dj o (x.set it (some (.fp l j)))/\mL p b it B x (x.set it (some (.fp l j))):=by
 refine⟨⟨cr (by omega) h.dO,by rw[aA];exact dz rfl,nT h.eW λc ak=>cr (by omega) rfl,h.qg.ext (by simp) λc _ ak=>cr (by omega) rfl,by simpa using h.nx⟩,⟨by simp,λc _ _ _ ak=>cr ak rfl⟩⟩
theorem rE.ext{p:Nat}{out:List UInt8}(h:rE p b it B a i s out w dj o x)(a3:7<=p)(J:p<b)(ae:b<it)(aq:it<B)(e:Ext x.n x y):rE p b it B a i s out w dj o y/\mL p b it B x y:=by
 have aT:=h.nx
 have Cd:=e.n
 exact⟨⟨(e.get p (by omega)).trans h.dO,(e.get it (by omega)).trans h.y9,nT h.eW λc ak=>e.get c (by omega),h.qg.ext e.n λc ak _=>e.get c ak,by omega⟩,⟨e.n,λc ak _ _ _=>e.get c (by omega)⟩⟩
theorem rE.wr{p:Nat}{out qD:List UInt8}(h:rE p b it B a i s out w dj o x)(a3:7<=p)(J:p<b)(ae:b<it)(aq:it<B)(ag:qy B b y qD)(e:bU b B x y):rE p b it B a i s qD w dj o y/\mL p b it B x y:=by
 have aT:=h.nx
 have Cd:=e.n
 exact⟨⟨(e.get p (by omega) (by omega)).trans h.dO,(e.get it (by omega) (by omega)).trans h.y9,nT h.eW λc ak=>e.get c (by omega) (by omega),ag,by omega⟩,⟨e.n,λc ak _ tb _=>e.get c ak tb⟩⟩
theorem y_{e:UInt8}{t:List UInt8}:(e.toNat<128->dS (e::t)=(e.toNat,1))/\(¬e.toNat<128->128<=(dS (e::t)).1):=by
 refine⟨λh=>by unfold dS;exact if_pos h,λh=>?_⟩
 rcases uQ (e::t) with⟨_,J⟩|⟨_,b,ft,ae,aq,_⟩|⟨_,c,ae,aq,_⟩
 · rw[J];decide
 · cases ae;exact absurd aq h
 · rw[ae];exact aq
theorem G9{v:aa}{et:I}(aT:x.n<=y.n)(h:qA v a y et):qA v a x et:=by
 obtain⟨e,e7,gL,nh,qC⟩:=h
 exact⟨e,e7,gL,by omega,qC⟩
theorem aeq(m p b it B a:Nat)(s L:List UInt8)(w dj o:aa)(ah:s.length<=80000)(a3:7<=p)(sB:p<b)(k2:b<it)(uX:it<B):∀(f i:Nat) (x:I) (out:List UInt8),(line (s.drop (a+i))).length<=f->1<=i->a+i<=s.length->L.length=i+(line (s.drop (a+i))).length->out.length<=i->rE p b it B a i s out w dj o x->
  rD m p b it B a s L w dj o false ((line (s.drop (a+i))).length+1) x (gB f (s.drop (a+i)) i out):=by
 intro f
 induction f using Nat.strongRecOn with
 |_ f bM=>
  intro i x out aM alK hi mM bg dp
  by_cases aA:line (s.drop (a+i))=[]
  · rw[aa_ _ _ _ _ aA]
    have qB:=dp.y9
    rw[aA] at qB
    exact .inr ⟨1,false,x,by omega,.exit (dU.post (Sm (C (m+6)) p b it false L x x (Ba qB)) ⟨rfl,rfl,rfl,trivial⟩) (by simp),rfl,dp.dO,mL.refl _ _ _ _ _⟩
  · obtain⟨U,fY⟩:∃U,s.drop (a+i)=U:=⟨_,rfl⟩
    have cf:a+i<s.length:=by
     rcases Nat.lt_or_ge (a+i) s.length with h|h
     · exact h
     · rw[List.drop_eq_nil_of_le h] at aA;exact absurd rfl aA
    have L2:=Sj (m+3) p a (a+i) s w dj o
    rw[fY] at aA aM mM L2⊢
    have qB:=dp.y9
    rw[fY] at qB
    obtain⟨f,rfl⟩:∃Pn,f=Pn+1:=⟨f-1,by
     have:0<(line U).length:=List.length_pos_iff.2 aA
     omega⟩
    cases U with
    |nil=>exact absurd rfl aA
    |cons bE t=>
     have ag:¬bE.toNat=10:=λe=>aA (w4 e t)
     have q1:=sD ag t
     have hlen:(line (bE::t)).length=(line t).length+1:=by rw[q1];rfl
     have G_:t=s.drop (a+(i+1)):=by
      have:s.drop (a+(i+1))=(s.drop (a+i)).drop 1:=by rw[List.drop_drop,Nat.add_assoc]
      rw[this,fY];rfl
     have kL:=w9 (b:=bE) (t:=line t) (by rw[<-q1];exact qB)
     rw[Lj,<-q1] at kL
     have i0:jM (Int.ofNat i) (Int.ofNat 0)=false:=fU (by omega)
     have rC:=nL (i:=a) (j:=i) (by omega)
     have eF:=GU (t:=t) ag
     have Ha:∀n,n<=(line (bE::t)).length->rE p b it B a (i+n) s out w dj o (x.set it (some (.fp ((line (bE::t)).drop n) (i+n))))/\mL p b it B x (x.set it (some (.fp ((line (bE::t)).drop n) (i+n)))):=λn aT=>
      dp.Sq a3 sB k2 uX (by rw[AZ n _ aT,<-fY,List.drop_drop,Nat.add_assoc])
     by_cases rF:bE.toNat=34
     · rw[Lk rF]
       have aH:=(y_ (e:=bE) (t:=t)).1 (by omega)
       rw[aH] at kL
       obtain⟨aV,aU⟩:=Ha 1 (by omega)
       have j8:=aN (off:=0+1) aV.dO rfl
       have c9:=nL (i:=a+i) (j:=1) (by omega)
       obtain⟨aw,Bc⟩:∃aw,aw=(x.set it (some (.fp ((line (bE::t)).drop 1) (i+1)))).set p (some (fl s (a+i+1) w dj o)):=⟨_,rfl⟩
       have fC:aJ.storeCells (x.set it (some (.fp ((line (bE::t)).drop 1) (i+1)))) p (0+1) [ad (a+i+1)]=some aw:=by rw[Bc];exact cy aV.dO rfl rfl
       have b2:qy B b aw out:=by rw[Bc];exact aV.qg.ext (by simp) λc _ ak=>cr (by have:=dp.nx;rcases ak with rfl|ak<;>omega) rfl
       obtain⟨a1,gF,fN⟩:=adb (m+5) b B aw out b2 (by omega)
       have b6:aw.n=x.n:=by rw[Bc];rfl
       have aj:=adC (C (m+6)) p b it i _ L x _ _ _ _ aw out a1 kL j8 rC i0 (fU (by omega)) (lO rF) c9 fC gF
       refine⟨1,a1,by omega,.exit (dU.post aj ⟨rfl,trivial⟩) (by simp),?_,⟨by have:=fN.n;omega,λc ak aG aE br=>?_⟩⟩
       · rw[fN.get p (by omega),Bc,Nat.add_assoc];exact dz rfl
       · rw[fN.get c ak,Bc,cr aG rfl];exact cr br rfl
     · by_cases Hb:bE.toNat=92
       · rw[GX Hb]
         have aH:=(y_ (e:=bE) (t:=t)).1 (by omega)
         rw[aH] at kL
         obtain⟨aV,aU⟩:=Ha 1 (by omega)
         have j8:=aN (off:=0+1) aV.dO rfl
         have st1:=adB (C (m+6)) p b it i _ L x _ _ _ kL j8 rC i0 (lO Hb)
         rw[hlen]
         refine rD.step st1 aU ?_
         obtain⟨Y,aer⟩:∃Y,Y=x.set it (some (.fp ((line (bE::t)).drop 1) (i+1))):=⟨_,rfl⟩
         rw[<-aer] at aV aU⊢
         have Hc:=aV.y9
         rw[<-G_] at Hc
         have alL:aC Y p (0+1)=some (ad a):=aN aV.dO rfl
         by_cases yb:line t=[]
         · have Sr:rD m p b it B a s L w dj o true ((line t).length+1) Y (.bad i):=by
             rw[yb] at Hc
             refine .inr ⟨1,true,Y,by omega,.exit (dU.post (Sm (C (m+6)) p b it true L Y Y (Ba Hc)) ⟨rfl,rfl,rfl,trivial⟩) (by simp),?_,aV.dO,mL.refl _ _ _ _ _⟩
             rw[if_pos rfl,mM,hlen,yb];rfl
           cases t with
           |nil=>exact Sr
           |cons e ft=>
            have si:e.toNat=10:=by
             by_cases ab:e.toNat=10
             · exact ab
             · rw[sD ab] at yb;cases yb
            simp only
            rw[if_neg (by omega),if_neg (by omega)]
            exact Sr
         · cases t with
           |nil=>exact absurd rfl yb
           |cons e ft=>
            have Ss:¬e.toNat=10:=λab=>yb (w4 ab ft)
            have L3:=sD Ss ft
            have Ce:(line (e::ft)).length=(line ft).length+1:=by rw[L3];rfl
            have DE:=w9 (b:=e) (t:=line ft) (by rw[<-L3];exact Hc)
            rw[Lj,<-L3] at DE
            have St:=nL (i:=a) (j:=i+1) (by omega)
            have i1:jM (Int.ofNat (i+1)) (Int.ofNat 0)=false:=fU (by omega)
            obtain⟨xc,we⟩:∃xc,(dS (e::ft)).1=xc:=⟨_,rfl⟩
            have kj:=(dec_lt (e::ft)).1
            have m0:=So (e::ft)
            have Cd:(dS (e::ft)).2<=(line (e::ft)).length:=by
             by_cases h0:ec (e::ft)=0
             · rw[A0 h0];simp only;omega
             · rw[L1 h0];exact GU Ss
            have hT:∀n,n<=(line (e::ft)).length->(line (e::ft)).drop n=line (s.drop (a+(i+1+n))):=λn aT=>by
             rw[AZ n _ aT,G_,List.drop_drop,Nat.add_assoc]
            obtain⟨cN,ea⟩:=aV.Sq (j:=i+1+(dS (e::ft)).2) a3 sB k2 uX (l:=(line (e::ft)).drop (dS (e::ft)).2) (hT _ Cd)
            obtain⟨Z,aes⟩:∃Z,Z=Y.set it (some (.fp ((line (e::ft)).drop (dS (e::ft)).2) (i+1+(dS (e::ft)).2))):=⟨_,rfl⟩
            rw[<-aes] at cN ea DE
            have Su:aC Z p (0+1)=some (ad a):=aN cN.dO rfl
            obtain⟨g,a9,bb⟩:=adq (m+2) xc Z (by rw[<-we];exact kj) (by rw[<-we];exact m0)
            obtain⟨ej,gl⟩:=cN.ext a3 sB k2 uX bb
            rw[we] at DE
            have fin:∀(k:Nat) (c:UInt8) (qD:UInt8),dS (e::ft)=(e.toNat,1)->rB xc=Int.ofNat k->Nat.le (Nat.succ k) 3->nth (0+k*1) [aa.str [34],aa.str [92],aa.str [10]]=some (.str [qD])->rD m p b it B a s L w dj o true ((line (e::ft)).length+1) Y (gB f ft (i+2) (out++[qD])):=by
             intro k c qD wj ai aet aeu
             rw[ai] at a9
             rw[wj] at ej
             obtain⟨G,nR⟩:∃G,G=g.push (aD [.str [34],.str [92],.str [10]] 9):=⟨_,rfl⟩
             have aev:Ext g.n g G:=by rw[nR];exact Ext.push (Nat.le_refl _) _
             obtain⟨b_,b9⟩:=ej.ext a3 sB k2 uX aev
             obtain⟨a5,hy,gm,gO⟩:=ada (m+3) b B G out [qD] b_.qg (by simp;omega) (by simp)
             obtain⟨v1,v2⟩:=b_.wr a3 sB k2 uX gm gO
             rw[nR] at hy
             have aew:aC (g.push (aD [.str [34],.str [92],.str [10]] 9)) g.n (0+k*1)=some (.str [qD]):=aN (dx rfl) aeu
             have fC:=adF (C (m+6)) p b it (i+1) xc k L [] Y Z g _ _ _ _ _ a5 DE Su St i1 a9 aet aew hy
             have Ad:(line ft).length<=f:=by rw[hlen,Ce] at aM;omega
             have L4:ft=s.drop (a+(i+2)):=by
              have:s.drop (a+(i+2))=(s.drop (a+(i+1))).drop 1:=by rw[List.drop_drop];exact congrArg (λk=>s.drop k) (by omega)
              rw[this,<-G_];rfl
             rw[Ce]
             refine rD.step fC (ea.trans (gl.trans (b9.trans v2))) ?_
             have iG:=bM f (by omega) (i+2) a5 (out++[qD]) (by rw[<-L4];exact Ad) (by omega) (by
              have bj:(e::ft).length=s.length-(a+(i+1)):=by rw[G_,List.length_drop]
              simp only[List.length_cons] at bj;omega) (by rw[<-L4,mM,hlen,Ce];omega) (by simp;omega) v1
             rw[<-L4] at iG
             exact iG
            have Sv:rB xc=-1->¬(e.toNat=34\/e.toNat=92)->¬e.toNat=110->rD m p b it B a s L w dj o true ((line (e::ft)).length+1) Y (if e.toNat=34\/e.toNat=92 then gB f ft (i+2) (out++[e]) else if e.toNat=110 then gB f ft (i+2) (out++[10]) else .bad i):=by
             intro ai bn b6
             rw[if_neg bn,if_neg b6]
             rw[ai] at a9
             have ch:=AD (i:=a+(i+1)) (j:=1) (by omega) (by omega)
             rw[show a+(i+1)-1=a+i by omega] at ch
             have aj:=adG (C (m+6)) p b it (i+1) xc L Y Z g _ _ _ _ _ DE Su St i1 a9 ch (w_ (m+5) (a+i) g)
             obtain⟨fF,g9⟩:=ej.ext a3 sB k2 uX (Ext.push (Nat.le_refl _) (qz (a+i)))
             exact .inl ⟨1,_,_,by omega,.exit (dU.post aj trivial) (by simp),xa (Nat.le_trans ea.n gl.n),ea.trans (gl.trans g9)⟩
            simp only
            by_cases he:e.toNat<128
            · have wj:=(y_ (e:=e) (t:=ft)).1 he
              have Hd:xc=e.toNat:=by rw[<-we,wj]
              by_cases Bd:e.toNat=34
              · rw[if_pos (.inl Bd)]
                exact fin 0 e e wj (by rw[Hd];unfold rB;rw[if_pos Bd];rfl) (by show(_:Nat)<=_;omega) (by
                 have:e=34:=UInt8.toNat_inj.1 Bd
                 rw[this];rfl)
              · by_cases DF:e.toNat=92
                · rw[if_pos (.inr DF)]
                  exact fin 1 e e wj (by rw[Hd];unfold rB;rw[if_neg Bd,if_pos DF];rfl) (by show(_:Nat)<=_;omega) (by
                   have:e=92:=UInt8.toNat_inj.1 DF
                   rw[this];rfl)
                · by_cases He:e.toNat=110
                  · rw[if_neg (by omega),if_pos He]
                    exact fin 2 e 10 wj (by rw[Hd];unfold rB;rw[if_neg Bd,if_neg DF,if_pos He];rfl) (by show(_:Nat)<=_;omega) rfl
                  · exact Sv (by rw[Hd];unfold rB;rw[if_neg Bd,if_neg DF,if_neg He]) (by omega) He
            · have tr:=(y_ (e:=e) (t:=ft)).2 he
              rw[we] at tr
              exact Sv (by unfold rB;rw[if_neg (by omega),if_neg (by omega),if_neg (by omega)]) (by omega) (by omega)
       · rw[GW ag rF Hb]
         have DG:¬(dS (bE::t)).1=92/\¬(dS (bE::t)).1=34:=by
          by_cases he:bE.toNat<128
          · rw[(y_ (e:=bE) (t:=t)).1 he];exact⟨Hb,rF⟩
          · have:=(y_ (e:=bE) (t:=t)).2 he
            omega
         cases ak:ec (bE::t) with
         |zero=>
          rw[A0 ak] at kL DG
          obtain⟨aV,aU⟩:=Ha 1 (by omega)
          have j8:=aN (off:=0+1) aV.dO rfl
          obtain⟨v,g,aO,aZ,bC⟩:=(L2 _ aV.eW aV.dO (by omega) cf).2 ak
          rw[A0 ak] at aO
          have aj:=adE (C (m+6)) p b it i _ 0 0 v L x _ g _ _ kL j8 rC i0 (fU DG.1) (fU DG.2) aO
          obtain⟨_,gl⟩:=aV.ext a3 sB k2 uX bC
          exact .inl ⟨1,v,g,by omega,.exit (dU.post aj trivial) (by simp),G9 aU.n aZ,aU.trans gl⟩
         |succ n=>
          have ae:=L1 (u:=bE::t) (by rw[ak];omega)
          rw[ak] at ae eF
          rw[ae] at kL
          obtain⟨aV,aU⟩:=Ha (n+1) eF
          have j8:=aN (off:=0+1) aV.dO rfl
          obtain⟨g,aO,bC⟩:=(L2 _ aV.eW aV.dO (by omega) cf).1 (by rw[ak];omega)
          obtain⟨ej,gl⟩:=aV.ext a3 sB k2 uX bC
          have aex:dT (dS (bE::t)).1=(bE::t).take (n+1):=by
           rcases uQ (bE::t) with⟨J,_⟩|⟨J,jb,ft,aq,aQ,bj⟩|⟨J,c,aq,_,_,_,bj⟩
           · rw[ak] at J;cases J
           · rw[ak] at J
             obtain rfl:n=0:=by omega
             cases aq
             rw[bj]
             unfold dT
             rw[if_pos aQ]
             simp
           · rw[aq,<-ak];exact bj
          have alM:n+1<=4:=by
           have:=(dec_lt (bE::t)).2.1
           omega
          obtain⟨k,a5,hy,gm,gO⟩:=adl (m+2) b B (dS (bE::t)).1 g out ej.qg (by omega) (dec_lt (bE::t)).1 (So (bE::t))
          rw[aex] at gm
          obtain⟨v1,v2⟩:=ej.wr a3 sB k2 uX gm gO
          have st:=adD (C (m+6)) p b it i _ L x _ _ _ g _ _ a5 kL j8 rC i0 (fU DG.1) (fU DG.2) aO hy
          have sg:(bE::t).drop (n+1)=s.drop (a+(i+(n+1))):=by rw[<-fY,List.drop_drop,Nat.add_assoc]
          have alN:(line (s.drop (a+(i+(n+1))))).length+(n+1)=(line (bE::t)).length:=by
           rw[<-sg,<-AZ _ _ eF,List.length_drop];omega
          have h9:a+(i+(n+1))<=s.length:=by
           have bj:(line (bE::t)).length<=(bE::t).length:=(List.takeWhile_prefix (l:=bE::t) qu).length_le
           have cW:(bE::t).length=s.length-(a+i):=by rw[<-fY,List.length_drop]
           omega
          have iG:=bM f (by omega) (i+(n+1)) a5 (out++(bE::t).take (n+1)) (by omega) (by omega) h9 (by omega) (by simp;omega) v1
          rw[hlen,<-sg] at*
          have aey:rD m p b it B a s L w dj o false (line t).length.succ a5 (gB f ((bE::t).drop (n+1)) (i+(n+1)) (out++(bE::t).take (n+1))):=by
           revert iG
           generalize gB f ((bE::t).drop (n+1)) (i+(n+1)) (out++(bE::t).take (n+1))=r
           intro iG
           cases r with
           |ok t0 k8=>obtain⟨k,et,bt,b3⟩:=iG;exact⟨k,et,by omega,b3⟩
           |bad k8=>
            rcases iG with⟨k,v,et,bt,b3⟩|⟨k,v,et,bt,b3⟩
            · exact .inl ⟨k,v,et,by omega,b3⟩
            · exact .inr ⟨k,v,et,by omega,b3⟩
          exact rD.step st (aU.trans (gl.trans v2)) aey
end Go.Proofs.iI
