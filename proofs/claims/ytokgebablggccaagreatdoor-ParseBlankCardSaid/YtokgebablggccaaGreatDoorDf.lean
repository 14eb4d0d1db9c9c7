/-
  PROVED HERE: contracts of functions (Df). No condition beside each statement's own.
-/
import Derived.Test.YtokgebablggccaaGreatDoorDa
set_option linter.unusedVariables false
set_option linter.unusedSimpArgs false
set_option linter.unusedSectionVars false
set_option maxRecDepth 20000
namespace fO
open lp
variable {a b:Nat}{α β:Type}
abbrev bJ:=List UInt8
inductive cG where
 |mk (kind at':Nat) (amd name:bJ) (names:List bJ) (args:List cG) (ret:Option cG)
inductive bX where
 |mk (kind at' n:Nat) (text:bJ) (l r c:Option bX) (t:Option cG) (names:List bJ) (types:List (Option cG)) (args:List bX)
structure gI where
 kind:Nat
 at':Nat
 name:bJ
 text:bJ
 t:Option cG
 e:Option bX
 names:List bJ
 types:List (Option cG)
abbrev rJ:=Nat×Nat
abbrev bw(α:Type):=Except rJ (α×Nat)
section
variable (all:List bP)
def bR(a:Nat):bP:=all.getD a ⟨0,[],0,0⟩
def dV(l:List bJ)(a:Nat):Bool:=((bR all a).k==2||(bR all a).k==5)&&l.contains (bR all a).t
def e_(s:bJ)(a:Nat):Except rJ Nat:=if dV all [s] a then .ok (a+1) else .error (10,(bR all a).at')
def nX(k a:Nat):bw bP:=if(bR all a).k=k then .ok (bR all a,a+1) else .error (10,(bR all a).at')
def ij(a:Nat):bw bJ:=match nX all 1 a with
 |.ok (t,b)=>.ok (t.t,b)
 |.error e=>.error e
def oM{α:Type}(fin:bJ)(one:Nat->bw α):Nat->Nat->List α->bw (List α)
 |0,a,_=>.error (0,0)
 |f+1,a,out=>match one a with
  |.error e=>.error e
  |.ok (x,b)=>if dV all [[44]] b then oM fin one f (b+1) (out++[x]) else match e_ all fin b with
   |.error e=>.error e
   |.ok c=>.ok (out++[x],c)
def j_{α:Type}(fin:bJ)(one:Nat->bw α)(a:Nat):bw (List α):=
 if dV all [fin] a then match e_ all fin a with
  |.error e=>.error e
  |.ok c=>.ok ([],c)
 else oM all fin one (all.length-a) a []
def DO:bJ:=[105,110,116]
def DP:bJ:=[98,111,111,108]
def DQ:bJ:=[115,116,114]
def mN:bJ:=[110,105,108]
def DR:bJ:=[97,110,121]
def Hr:bJ:=[102,110]
def Hs(w:bJ):Nat:=if w=DO then 1 else if w=DP then 2 else if w=DQ then 3 else if w=mN then 4 else if w=DR then 5 else 0
def rK(a:Nat):bw cG:=match ij all a with
 |.error e=>.error e
 |.ok (x,b)=>if dV all [[46]] b then match ij all (b+1) with
    |.error e=>.error e
    |.ok (y,c)=>.ok (.mk 6 (bR all a).at' x y [] [] none,c)
  else .ok (.mk 6 (bR all a).at' [] x [] [] none,b)
def nY(T:Nat->bw cG)(a:Nat):bw (bJ×cG):=match ij all a with
 |.error e=>.error e
 |.ok (x,b)=>match e_ all [58] b with
  |.error e=>.error e
  |.ok c=>match T c with
   |.error e=>.error e
   |.ok (t,d)=>.ok ((x,t),d)
def jV(T:Nat->bw cG)(a:Nat):bw cG:=
 if dV all [DO,DP,DQ,mN,DR] a then .ok (.mk (Hs (bR all a).t) (bR all a).at' [] [] [] [] none,a+1)
 else if dV all [[40]] a then match T (a+1) with
  |.error e=>.error e
  |.ok (t,b)=>match e_ all [41] b with
   |.error e=>.error e
   |.ok c=>.ok (t,c)
 else if dV all [[123]] a then match j_ all [125] (nY all T) (a+1) with
  |.error e=>.error e
  |.ok (l,b)=>.ok (.mk 7 (bR all a).at' [] [] (l.map (·.1)) (l.map (·.2)) none,b)
 else if dV all [Hr] a then match e_ all [40] (a+1) with
  |.error e=>.error e
  |.ok b=>match j_ all [41] T b with
   |.error e=>.error e
   |.ok (l,c)=>match e_ all [45,62] c with
    |.error e=>.error e
    |.ok d=>match T d with
     |.error e=>.error e
     |.ok (r,e)=>.ok (.mk 8 (bR all a).at' [] [] [] l (some r),e)
 else rK all a
def rL(T:Nat->bw cG):Nat->Nat->List cG->bw (List cG)
 |0,a,out=>.ok (out,a)
 |f+1,a,out=>if dV all [[124]] a then match jV all T (a+1) with
   |.error e=>.error e
   |.ok (t,b)=>rL T f b (out++[t])
  else .ok (out,a)
def jk:Nat->Nat->bw cG
 |0,a=>.error (11,(bR all a).at')
 |j+1,a=>match jV all (jk j) a with
  |.error e=>.error e
  |.ok (t,b)=>match rL all (jk j) (all.length-b) b [t] with
   |.error e=>.error e
   |.ok ([x],c)=>.ok (x,c)
   |.ok (l,c)=>.ok (.mk 9 (bR all a).at' [] [] [] l none,c)
def pz(T:Nat->bw cG)(a:Nat):bw (Option cG):=if dV all [[58]] a then match T (a+1) with
    |.error e=>.error e
    |.ok (t,b)=>.ok (some t,b)
 else .ok (none,a)
def pA(T:Nat->bw cG)(a:Nat):bw (bJ×Option cG):=match ij all a with
 |.error e=>.error e
 |.ok (x,b)=>match pz all T b with
  |.error e=>.error e
  |.ok (t,c)=>.ok ((x,t),c)
def rM(T:Nat->bw cG)(a:Nat):bw (List (bJ×Option cG)):=match e_ all [40] a with
 |.error e=>.error e
 |.ok b=>j_ all [41] (pA all T) b
def leaf(kind at' n:Nat)(text:bJ):bX:=.mk kind at' n text none none none none [] [] []
def qE:bJ:=[116,114,117,101]
def qF:bJ:=[102,97,108,115,101]
def qG(w:bJ):Nat:=if w=qE then 3 else if w=qF then 4 else if w=mN then 5 else 0
def oN(a:Nat):Option bX:=
 let t:=bR all a
 if t.k=3 then some (leaf 1 t.at' t.v t.t)
 else if t.k=4 then some (leaf 2 t.at' t.v t.t)
 else if t.k=1 then some (leaf 6 t.at' t.v t.t)
 else if dV all [qE,qF,mN] a then some (leaf (qG t.t) t.at' t.v [])
 else none
def nZ(E:Nat->bw bX)(a:Nat):bw bX:=match e_ all [40] a with
 |.error e=>.error e
 |.ok b=>match E b with
  |.error e=>.error e
  |.ok (x,c)=>match e_ all [41] c with
   |.error e=>.error e
   |.ok d=>.ok (x,d)
def lR(E:Nat->bw bX)(a:Nat):bw (bJ×bX):=match ij all a with
 |.error e=>.error e
 |.ok (x,b)=>match e_ all [61] b with
  |.error e=>.error e
  |.ok c=>match E c with
   |.error e=>.error e
   |.ok (t,d)=>.ok ((x,t),d)
def SZ:bJ:=[114,111,108,108]
def S0:bJ:=[117,110,114,111,108,108]
def pB(E:Nat->bw bX)(T:Nat->bw cG)(a:Nat):bw bX:=match oN all a with
 |some e=>.ok (e,a+1)
 |none=>
  if dV all [[123]] a then match j_ all [125] (lR all E) (a+1) with
   |.error e=>.error e
   |.ok (l,b)=>.ok (.mk 8 (bR all a).at' 0 [] none none none none (l.map (·.1)) [] (l.map (·.2)),b)
  else if dV all [[40]] a then match E (a+1) with
   |.error e=>.error e
   |.ok (x,b)=>if dV all [[41]] b then .ok (x,b+1) else if dV all [[58]] b then match T (b+1) with
        |.error e=>.error e
        |.ok (t,c)=>match e_ all [41] c with
         |.error e=>.error e
         |.ok d=>.ok (.mk 15 (bR all a).at' 0 [] (some x) none none (some t) [] [] [],d)
     else .error (10,(bR all b).at')
  else if dV all [SZ] a then match rK all (a+1) with
   |.error e=>.error e
   |.ok (t,b)=>match nZ all E b with
    |.error e=>.error e
    |.ok (x,c)=>.ok (.mk 16 (bR all a).at' 0 [] (some x) none none (some t) [] [] [],c)
  else if dV all [S0] a then match nZ all E (a+1) with
   |.error e=>.error e
   |.ok (x,c)=>.ok (.mk 17 (bR all a).at' 0 [] (some x) none none none [] [] [],c)
  else .error (10,(bR all a).at')
def pC(E:Nat->bw bX):Nat->Nat->bX->bw bX
 |0,a,l=>.ok (l,a)
 |f+1,a,l=>
  if dV all [[46]] a then match ij all (a+1) with
   |.error e=>.error e
   |.ok (x,b)=>pC E f b (.mk 7 (bR all a).at' 0 x (some l) none none none [] [] [])
  else if dV all [[40]] a then match j_ all [41] E (a+1) with
   |.error e=>.error e
   |.ok (x,b)=>pC E f b (.mk 9 (bR all a).at' 0 [] (some l) none none none [] [] x)
  else .ok (l,a)
def qH(E:Nat->bw bX)(T:Nat->bw cG)(a:Nat):bw bX:=match pB all E T a with
 |.error e=>.error e
 |.ok (x,b)=>pC all E (all.length-b) b x
def Mf:bJ:=[110,111,116]
def pD(E:Nat->bw bX)(T:Nat->bw cG)(U:Nat->bw bX)(a:Nat):bw bX:=
 if dV all [Mf,[45]] a then match U (a+1) with
  |.error e=>.error e
  |.ok (x,b)=>.ok (.mk 14 (bR all a).at' 0 (bR all a).t (some x) none none none [] [] [],b)
 else qH all E T a
def n0:Nat->List bJ
 |0=>[[111,114]]
 |1=>[[97,110,100]]
 |2=>[[61,61],[60]]
 |3=>[[43],[45],[46,46]]
 |_=>[[42]]
def qI(one:Nat->bw bX)(k:Nat):Nat->Nat->bX->bw bX
 |0,a,l=>.ok (l,a)
 |f+1,a,l=>if dV all (n0 k) a then match one (a+1) with
   |.error e=>.error e
   |.ok (r,b)=>qI one k f b (.mk 13 (bR all a).at' 0 (bR all a).t (some l) (some r) none none [] [] [])
  else .ok (l,a)
def k9(U:Nat->bw bX):Nat->Nat->bw bX
 |0,a=>U a
 |i+1,a=>match k9 U i a with
  |.error e=>.error e
  |.ok (l,b)=>qI all (k9 U i) (4-i) (all.length-b) b l
def S1:bJ:=[105,102]
def Ht:bJ:=[116,104,101,110]
def Hu:bJ:=[101,108,115,101]
def Hv:bJ:=[108,101,116]
def Hw:bJ:=[105,110]
def mf(E:Nat->bw bX)(T:Nat->bw cG)(U:Nat->bw bX)(a:Nat):bw bX:=
 if dV all [S1] a then match E (a+1) with
  |.error e=>.error e
  |.ok (x,b)=>match e_ all Ht b with
   |.error e=>.error e
   |.ok c=>match E c with
    |.error e=>.error e
    |.ok (y,d)=>match e_ all Hu d with
     |.error e=>.error e
     |.ok e=>match E e with
      |.error e=>.error e
      |.ok (z,f)=>.ok (.mk 11 (bR all a).at' 0 [] (some x) (some y) (some z) none [] [] [],f)
 else if dV all [Hv] a then match ij all (a+1) with
  |.error e=>.error e
  |.ok (n,b)=>match pz all T b with
   |.error e=>.error e
   |.ok (t,c)=>match e_ all [61] c with
    |.error e=>.error e
    |.ok d=>match E d with
     |.error e=>.error e
     |.ok (x,e)=>match e_ all Hw e with
      |.error e=>.error e
      |.ok f=>match E f with
       |.error e=>.error e
       |.ok (y,g)=>.ok (.mk 12 (bR all a).at' 0 n (some x) (some y) none t [] [] [],g)
 else if dV all [Hr] a then match rM all T (a+1) with
  |.error e=>.error e
  |.ok (l,b)=>match e_ all [61,62] b with
   |.error e=>.error e
   |.ok c=>match E c with
    |.error e=>.error e
    |.ok (x,d)=>.ok (.mk 10 (bR all a).at' 0 [] (some x) none none none (l.map (·.1)) (l.map (·.2)) [],d)
 else k9 all U 5 a
def nj:Nat->(Nat->bw bX)×(Nat->bw bX)
 |0=>(λa=>.error (11,(bR all a).at'),pD all (λa=>.error (11,(bR all a).at')) (jk all 0) (λa=>.error (11,(bR all a).at')))
 |j+1=>(mf all (nj j).1 (jk all j) (nj j).2,pD all (mf all (nj j).1 (jk all j) (nj j).2) (jk all (j+1)) (nj j).2)
def u9(j:Nat):Nat->bw bX:=(nj all j).1
def S2:bJ:=[105,109,112,111,114,116]
def Hx:bJ:=[97,115]
def S3:bJ:=[116,121,112,101]
def S4:bJ:=[102,117,110]
def pE(d:gI)(a:Nat):bw gI:=match pz all (jk all 40) a with
 |.error e=>.error e
 |.ok (t,b)=>match e_ all [61] b with
  |.error e=>.error e
  |.ok c=>match u9 all 40 c with
   |.error e=>.error e
   |.ok (x,f)=>.ok ({d with t:=t,e:=some x},f)
def pF(a:Nat):bw gI:=
 if dV all [S2] a then match nX all 4 (a+1) with
  |.error e=>.error e
  |.ok (t,b)=>match e_ all Hx b with
   |.error e=>.error e
   |.ok c=>match ij all c with
    |.error e=>.error e
    |.ok (n,d)=>.ok (⟨1,(bR all a).at',n,t.t,none,none,[],[]⟩,d)
 else if dV all [S3] a then match ij all (a+1) with
  |.error e=>.error e
  |.ok (n,b)=>match e_ all [61] b with
   |.error e=>.error e
   |.ok c=>match jk all 40 c with
    |.error e=>.error e
    |.ok (t,d)=>.ok (⟨2,(bR all a).at',n,[],some t,none,[],[]⟩,d)
 else if dV all [Hv] a then match ij all (a+1) with
  |.error e=>.error e
  |.ok (n,b)=>pE all ⟨3,(bR all a).at',n,[],none,none,[],[]⟩ b
 else if dV all [S4] a then match ij all (a+1) with
  |.error e=>.error e
  |.ok (n,b)=>match rM all (jk all 40) b with
   |.error e=>.error e
   |.ok (l,c)=>pE all ⟨4,(bR all a).at',n,[],none,none,l.map (·.1),l.map (·.2)⟩ c
 else .error (10,(bR all a).at')
def n1:Nat->Nat->List gI->Except rJ (List gI)
 |0,_,out=>.ok out
 |f+1,a,out=>if(bR all a).k=0 then .ok out else match pF all a with
  |.error e=>.error e
  |.ok (d,b)=>n1 f b (out++[d])
end
def ky(s:bJ):Except rJ (List gI):=match px s with
 |.error a=>.error (10,a)
 |.ok all=>n1 all all.length 0 []
def ev{α:Type}(one:Nat->bw α):Prop:=∀a x b,one a=.ok (x,b)->a<=b
section
variable {all:List bP}
theorem lS{s:bJ}(h:e_ all s a=.ok b):b=a+1:=by
 unfold e_ at h
 split at h<;>cases h
 rfl
theorem S5{k:Nat}{t:bP}(h:nX all k a=.ok (t,b)):b=a+1:=by
 unfold nX at h
 split at h<;>cases h
 rfl
theorem rN{x:bJ}(h:ij all a=.ok (x,b)):b=a+1:=by
 unfold ij at h
 split at h
 · rename_i t bd J
   have:=S5 J
   cases h;exact this
 · cases h
theorem S6{α:Type}{fin:bJ}{one:Nat->bw α}(hm:ev one):∀(f a:Nat) (out l:List α) (b:Nat),oM all fin one f a out=.ok (l,b)->a<=b
 |0,a,out,l,b,h=>by cases h
 |f+1,a,out,l,b,h=>by
  unfold oM at h
  split at h
  · cases h
  · rename_i x bd J
    have aO:=hm _ _ _ J
    split at h
    · have:=S6 hm f (bd+1) _ _ _ h;omega
    · split at h
      · cases h
      · rename_i c ae
        have:=lS ae
        cases h;omega
theorem Bk{fin:bJ}{one:Nat->bw α}(hm:ev one):ev (j_ all fin one):=λa x b h=>by
 unfold j_ at h
 split at h
 · split at h
   · cases h
   · rename_i c ae
     have:=lS ae
     cases h;omega
 · exact S6 hm _ _ _ _ _ h
theorem Mg:ev (rK all):=λa x b h=>by
 unfold rK at h
 split at h
 · cases h
 · rename_i y bd J
   have aO:=rN J
   split at h
   · split at h
     · cases h
     · rename_i z c ae
       have:=rN ae
       cases h;omega
   · cases h;omega
theorem S7{T:Nat->bw cG}(de:ev T):ev (nY all T):=λa x b h=>by
 unfold nY at h
 split at h
 · cases h
 · rename_i y bd J
   have aO:=rN J
   split at h
   · cases h
   · rename_i c ae
     have aZ:=lS ae
     split at h
     · cases h
     · rename_i t d aq
       have:=de _ _ _ aq
       cases h;omega
theorem Hy{T:Nat->bw cG}(de:ev T):ev (jV all T):=λa x b h=>by
 unfold jV at h
 split at h
 · cases h;omega
 split at h
 · split at h
   · cases h
   · rename_i t bd J
     have aO:=de _ _ _ J
     split at h
     · cases h
     · rename_i c ae
       have:=lS ae
       cases h;omega
 split at h
 · split at h
   · cases h
   · rename_i l bd J
     have aO:=Bk (S7 de) _ _ _ J
     cases h;omega
 split at h
 · split at h
   · cases h
   · rename_i bd J
     have aO:=lS J
     split at h
     · cases h
     · rename_i l c ae
       have aZ:=Bk de _ _ _ ae
       split at h
       · cases h
       · rename_i d aq
         have bC:=lS aq
         split at h
         · cases h
         · rename_i r e aQ
           have:=de _ _ _ aQ
           cases h;omega
 · exact Mg _ _ _ h
theorem Mh{T:Nat->bw cG}(de:ev T):∀(f a:Nat) (out l:List cG) (b:Nat),rL all T f a out=.ok (l,b)->a<=b
 |0,a,out,l,b,h=>by cases h;omega
 |f+1,a,out,l,b,h=>by
  unfold rL at h
  split at h
  · split at h
    · cases h
    · rename_i t bd J
      have aO:=Hy de _ _ _ J
      have:=Mh de f bd _ _ _ h
      omega
  · cases h;omega
theorem nk:∀j,ev (jk all j)
 |0=>λa x b h=>by cases h
 |j+1=>λa x b h=>by
  unfold jk at h
  split at h
  · cases h
  · rename_i t bd J
    have aO:=Hy (nk j) _ _ _ J
    split at h
    · cases h
    · rename_i y c ae
      have:=Mh (nk j) _ _ _ _ _ ae
      cases h;omega
    · rename_i l c _ ae
      have:=Mh (nk j) _ _ _ _ _ ae
      cases h;omega
theorem Hz{T:Nat->bw cG}(de:ev T):ev (pz all T):=λa x b h=>by
 unfold pz at h
 split at h
 · split at h
   · cases h
   · rename_i t bd J
     have:=de _ _ _ J
     cases h;omega
 · cases h;omega
theorem S8{T:Nat->bw cG}(de:ev T):ev (pA all T):=λa x b h=>by
 unfold pA at h
 split at h
 · cases h
 · rename_i y bd J
   have aO:=rN J
   split at h
   · cases h
   · rename_i t c ae
     have:=Hz de _ _ _ ae
     cases h;omega
theorem Mi{T:Nat->bw cG}(de:ev T):ev (rM all T):=λa x b h=>by
 unfold rM at h
 split at h
 · cases h
 · rename_i bd J
   have aO:=lS J
   have:=Bk (S8 de) _ _ _ h
   omega
theorem S9{E:Nat->bw bX}(bO:ev E):ev (nZ all E):=λa x b h=>by
 unfold nZ at h
 split at h
 · cases h
 · rename_i bd J
   have aO:=lS J
   split at h
   · cases h
   · rename_i y c ae
     have aZ:=bO _ _ _ ae
     split at h
     · cases h
     · rename_i d aq
       have:=lS aq
       cases h;omega
theorem S_{T:Nat->bw bX}(de:ev T):ev (lR all T):=λa x b h=>by
 unfold lR at h
 split at h
 · cases h
 · rename_i y bd J
   have aO:=rN J
   split at h
   · cases h
   · rename_i c ae
     have aZ:=lS ae
     split at h
     · cases h
     · rename_i t d aq
       have:=de _ _ _ aq
       cases h;omega
theorem afG{E:Nat->bw bX}{T:Nat->bw cG}(bO:ev E)(de:ev T):ev (pB all E T):=λa x b h=>by
 unfold pB at h
 split at h
 · cases h;omega
 split at h
 · split at h
   · cases h
   · rename_i l bd J
     have:=Bk (S_ bO) _ _ _ J
     cases h;omega
 split at h
 · split at h
   · cases h
   · rename_i y bd J
     have aO:=bO _ _ _ J
     split at h
     · cases h;omega
     split at h
     · split at h
       · cases h
       · rename_i t c ae
         have aZ:=de _ _ _ ae
         split at h
         · cases h
         · rename_i d aq
           have:=lS aq
           cases h;omega
     · cases h
 split at h
 · split at h
   · cases h
   · rename_i t bd J
     have aO:=Mg _ _ _ J
     split at h
     · cases h
     · rename_i y c ae
       have:=S9 bO _ _ _ ae
       cases h;omega
 split at h
 · split at h
   · cases h
   · rename_i y c ae
     have:=S9 bO _ _ _ ae
     cases h;omega
 · cases h
theorem Mj{E:Nat->bw bX}(bO:ev E):∀(f a:Nat) (l x:bX) (b:Nat),pC all E f a l=.ok (x,b)->a<=b
 |0,a,l,x,b,h=>by cases h;omega
 |f+1,a,l,x,b,h=>by
  unfold pC at h
  split at h
  · split at h
    · cases h
    · rename_i y bd J
      have aO:=rN J
      have:=Mj bO f _ _ _ _ h
      omega
  split at h
  · split at h
    · cases h
    · rename_i y bd J
      have aO:=Bk bO _ _ _ J
      have:=Mj bO f _ _ _ _ h
      omega
  · cases h;omega
theorem afH{E:Nat->bw bX}{T:Nat->bw cG}(bO:ev E)(de:ev T):ev (qH all E T):=λa x b h=>by
 unfold qH at h
 split at h
 · cases h
 · rename_i y bd J
   have aO:=afG bO de _ _ _ J
   have:=Mj bO _ _ _ _ _ h
   omega
theorem Ta{E U:Nat->bw bX}{T:Nat->bw cG}(bO:ev E)(de:ev T)(fY:ev U):ev (pD all E T U):=λa x b h=>by
 unfold pD at h
 split at h
 · split at h
   · cases h
   · rename_i y bd J
     have:=fY _ _ _ J
     cases h;omega
 · exact afH bO de _ _ _ h
theorem Tb{E:Nat->bw bX}(bO:ev E)(k:Nat):∀(f a:Nat) (l x:bX) (b:Nat),qI all E k f a l=.ok (x,b)->a<=b
 |0,a,l,x,b,h=>by cases h;omega
 |f+1,a,l,x,b,h=>by
  unfold qI at h
  split at h
  · split at h
    · cases h
    · rename_i y bd J
      have aO:=bO _ _ _ J
      have:=Tb bO k f _ _ _ _ h
      omega
  · cases h;omega
theorem HA{U:Nat->bw bX}(fY:ev U):∀i,ev (k9 all U i)
 |0=>fY
 |i+1=>λa x b h=>by
  unfold k9 at h
  split at h
  · cases h
  · rename_i y bd J
    have aO:=HA fY i _ _ _ J
    have:=Tb (HA fY i) _ _ _ _ _ _ h
    omega
theorem afI{E U:Nat->bw bX}{T:Nat->bw cG}(bO:ev E)(de:ev T)(fY:ev U):ev (mf all E T U):=λa x b h=>by
 unfold mf at h
 split at h
 · split at h
   · cases h
   rename_i y bd J
   have aO:=bO _ _ _ J
   split at h
   · cases h
   rename_i c ae
   have aZ:=lS ae
   split at h
   · cases h
   rename_i z d aq
   have bC:=bO _ _ _ aq
   split at h
   · cases h
   rename_i e aQ
   have cX:=lS aQ
   split at h
   · cases h
   rename_i u f bj
   have gi:=bO _ _ _ bj
   cases h;omega
 split at h
 · split at h
   · cases h
   rename_i y bd J
   have aO:=rN J
   split at h
   · cases h
   rename_i t c ae
   have aZ:=Hz de _ _ _ ae
   split at h
   · cases h
   rename_i d aq
   have bC:=lS aq
   split at h
   · cases h
   rename_i z e aQ
   have cX:=bO _ _ _ aQ
   split at h
   · cases h
   rename_i f bj
   have gi:=lS bj
   split at h
   · cases h
   rename_i u g cW
   have fg:=bO _ _ _ cW
   cases h;omega
 split at h
 · split at h
   · cases h
   rename_i l bd J
   have aO:=Mi de _ _ _ J
   split at h
   · cases h
   rename_i d aq
   have bC:=lS aq
   split at h
   · cases h
   rename_i z e aQ
   have cX:=bO _ _ _ aQ
   cases h;omega
 · exact HA fY 5 _ _ _ h
theorem zi:∀j,ev (nj all j).1/\ev (nj all j).2
 |0=>⟨λa x b h=>(by cases h),Ta (E:=λa=>.error (11,(bR all a).at')) (U:=λa=>.error (11,(bR all a).at')) (λa x b h=>(by cases h)) (nk 0) (λa x b h=>(by cases h))⟩
 |j+1=>by
  obtain⟨J,ae⟩:=zi j
  have ag:=afI (all:=all) (T:=jk all j) J (nk j) ae
  exact⟨ag,Ta ag (nk (j+1)) ae⟩
end
mutual
def kz:cG->cG
 |.mk k _ u_ dB cZ xs rt=>.mk k 0 u_ dB cZ (HB xs) (kb rt)
def HB:List cG->List cG
 |[]=>[]
 |t::bl=>kz t::HB bl
def kb:Option cG->Option cG
 |none=>none
 |some t=>some (kz t)
end
mutual
def gp:bX->bX
 |.mk k _ n x l r c t cZ bl es=>.mk k 0 n x (lu l) (lu r) (lu c) (kb t) cZ (bl.map kb) (oO es)
def oO:List bX->List bX
 |[]=>[]
 |t::bl=>gp t::oO bl
def lu:Option bX->Option bX
 |none=>none
 |some t=>some (gp t)
end
def iL(d:gI):gI:={d with at':=0,t:=kb d.t,e:=lu d.e,types:=d.types.map kb}
theorem DS:∀l:List cG,HB l=l.map kz
 |[]=>rfl
 |t::bl=>by rw[HB,DS bl];rfl
theorem Mk:∀l:List bX,oO l=l.map gp
 |[]=>rfl
 |t::bl=>by rw[oO,Mk bl];rfl
def fI{α β:Type}(f:α->β)(r s:bw α):Prop:=match r,s with
 |.error _,.error _=>True
 |.ok (v,a),.ok (w,b)=>f v=f w/\a=b
 |_,_=>False
theorem fI.cases{f:α->β}{r s:bw α}(h:fI f r s):(∃e b0,r=.error e/\s=.error b0)\/∃v w a,r=.ok (v,a)/\s=.ok (w,a)/\f v=f w:=by
 match r,s,h with
 |.error e,.error b0,_=>exact .inl ⟨e,b0,rfl,rfl⟩
 |.ok (v,a),.ok (w,b),h=>obtain⟨J,rfl⟩:=h;exact .inr ⟨v,w,a,rfl,rfl,J⟩
def Tc(r s:Except rJ Nat):Prop:=match r,s with
 |.error _,.error _=>True
 |.ok a,.ok b=>a=b
 |_,_=>False
theorem Tc.cases{r s:Except rJ Nat}(h:Tc r s):(∃e b0,r=.error e/\s=.error b0)\/∃a,r=.ok a/\s=.ok a:=by
 match r,s,h with
 |.error e,.error b0,_=>exact .inl ⟨e,b0,rfl,rfl⟩
 |.ok a,.ok b,h=>cases h;exact .inr ⟨a,rfl,rfl⟩
structure Td(all gQ:List bP):Prop where
 len:all.length=gQ.length
 k:∀a,(bR all a).k=(bR gQ a).k
 t:∀a,(bR all a).t=(bR gQ a).t
 v:∀a,(bR all a).v=(bR gQ a).v
section
variable {all gQ:List bP} (z:Td all gQ)
include z
theorem pG(l:List bJ)(a:Nat):dV all l a=dV gQ l a:=by unfold dV;rw[z.k,z.t]
theorem mg(s:bJ)(a:Nat):Tc (e_ all s a) (e_ gQ s a):=by
 unfold e_
 rw[pG z]
 split<;>simp[Tc]
theorem Te(k a:Nat):fI (λt=>(t.k,t.t,t.v)) (nX all k a) (nX gQ k a):=by
 unfold nX
 rw[z.k]
 split
 · exact⟨by simp only[z.k,z.t,z.v],rfl⟩
 · trivial
theorem sH(a:Nat):fI (λs=>s) (ij all a) (ij gQ a):=by
 unfold ij
 rcases(Te z 1 a).cases with⟨e,b0,J,ae⟩|⟨v,w,b,J,ae,aq⟩
 · simp only[J,ae];trivial
 · simp only[J,ae]
   simp only[Prod.mk.injEq] at aq
   exact⟨aq.2.1,rfl⟩
theorem Tf{α β:Type}{f:α->β}(fin:bJ){one two:Nat->bw α}(h:∀a,fI f (one a) (two a)):∀(n a:Nat) (o p:List α),o.map f=p.map f->fI (List.map f) (oM all fin one n a o) (oM gQ fin two n a p)
 |0,a,o,p,_=>trivial
 |n+1,a,o,p,gz=>by
  unfold oM
  rcases(h a).cases with⟨e,b0,J,ae⟩|⟨v,w,b,J,ae,aq⟩
  · simp only[J,ae];trivial
  · simp only[J,ae]
    have e:(o++[v]).map f=(p++[w]).map f:=by simp[gz,aq]
    rw[pG z]
    split
    · exact Tf fin h n (b+1) _ _ e
    · rcases(mg z fin b).cases with⟨e,b0,aQ,bj⟩|⟨c,aQ,bj⟩
      · simp only[aQ,bj];trivial
      · simp only[aQ,bj];exact⟨e,rfl⟩
theorem DT{f:α->β}(fin:bJ){one two:Nat->bw α}(h:∀a,fI f (one a) (two a))(a:Nat):fI (List.map f) (j_ all fin one a) (j_ gQ fin two a):=by
 unfold j_
 rw[pG z,z.len]
 split
 · rcases(mg z fin a).cases with⟨e,b0,aQ,bj⟩|⟨c,aQ,bj⟩
   · simp only[aQ,bj];trivial
   · simp only[aQ,bj];exact⟨rfl,rfl⟩
 · exact Tf z fin h _ _ _ _ rfl
theorem Tg(a:Nat):fI kz (rK all a) (rK gQ a):=by
 unfold rK
 rcases(sH z a).cases with⟨e,b0,J,ae⟩|⟨v,w,b,J,ae,rfl⟩
 · simp only[J,ae];trivial
 · simp only[J,ae]
   rw[pG z]
   split
   · rcases(sH z (b+1)).cases with⟨e,b0,aQ,bj⟩|⟨v2,b9,c,aQ,bj,rfl⟩
     · simp only[aQ,bj];trivial
     · simp only[aQ,bj];exact⟨rfl,rfl⟩
   · exact⟨rfl,rfl⟩
theorem afJ{T S:Nat->bw cG}(h:∀a,fI kz (T a) (S a))(a:Nat):fI (λx=>(x.1,kz x.2)) (nY all T a) (nY gQ S a):=by
 unfold nY
 rcases(sH z a).cases with⟨e,b0,J,ae⟩|⟨v,w,b,J,ae,rfl⟩
 · simp only[J,ae];trivial
 · simp only[J,ae]
   rcases(mg z [58] b).cases with⟨e,b0,aQ,bj⟩|⟨c,aQ,bj⟩
   · simp only[aQ,bj];trivial
   · simp only[aQ,bj]
     rcases(h c).cases with⟨e,b0,cW,eS⟩|⟨v2,b9,d,cW,eS,e6⟩
     · simp only[cW,eS];trivial
     · simp only[cW,eS];exact⟨by simp only[e6],rfl⟩
theorem HC{afK:Type}{f:β->afK}{o p:List (α×β)}(h:o.map (λx=>(x.1,f x.2))=p.map (λx=>(x.1,f x.2))):o.map (·.1)=p.map (·.1)/\(o.map (·.2)).map f=(p.map (·.2)).map f:=by
 have J:=congrArg (List.map (·.1)) h
 have ae:=congrArg (List.map (·.2)) h
 simp only[List.map_map] at J ae⊢
 exact⟨J,ae⟩
theorem Th{T S:Nat->bw cG}(h:∀a,fI kz (T a) (S a))(a:Nat):fI kz (jV all T a) (jV gQ S a):=by
 unfold jV
 simp only[pG z,z.t]
 split
 · exact⟨rfl,rfl⟩
 · split
   · rcases(h (a+1)).cases with⟨e,b0,J,ae⟩|⟨v,w,b,J,ae,aq⟩
     · simp only[J,ae];trivial
     · simp only[J,ae]
       rcases(mg z [41] b).cases with⟨e,b0,aQ,bj⟩|⟨c,aQ,bj⟩
       · simp only[aQ,bj];trivial
       · simp only[aQ,bj];exact⟨aq,rfl⟩
   · split
     · rcases(DT z [125] (afJ z h) (a+1)).cases with⟨e,b0,J,ae⟩|⟨v,w,b,J,ae,aq⟩
       · simp only[J,ae];trivial
       · simp only[J,ae]
         obtain⟨aO,aZ⟩:=HC z aq
         exact⟨by simp only[kz,DS,kb,aO,aZ],rfl⟩
     · split
       · rcases(mg z [40] (a+1)).cases with⟨e,b0,aQ,bj⟩|⟨c,aQ,bj⟩
         · simp only[aQ,bj];trivial
         · simp only[aQ,bj]
           rcases(DT z [41] h c).cases with⟨e,b0,J,ae⟩|⟨v,w,b,J,ae,aq⟩
           · simp only[J,ae];trivial
           · simp only[J,ae]
             rcases(mg z [45,62] b).cases with⟨e,b0,cW,eS⟩|⟨d,cW,eS⟩
             · simp only[cW,eS];trivial
             · simp only[cW,eS]
               rcases(h d).cases with⟨e,b0,e6,mv⟩|⟨v2,b9,e,e6,mv,si⟩
               · simp only[e6,mv];trivial
               · simp only[e6,mv]
                 exact⟨by simp only[kz,DS,kb,aq,si],rfl⟩
       · exact Tg z a
theorem Ti{T S:Nat->bw cG}(h:∀a,fI kz (T a) (S a)):∀(n a:Nat) (o p:List cG),o.map kz=p.map kz->fI (List.map kz) (rL all T n a o) (rL gQ S n a p)
 |0,a,o,p,gz=>⟨gz,rfl⟩
 |n+1,a,o,p,gz=>by
  unfold rL
  rw[pG z]
  split
  · rcases(Th z h (a+1)).cases with⟨e,b0,J,ae⟩|⟨v,w,b,J,ae,aq⟩
    · simp only[J,ae];trivial
    · simp only[J,ae]
      exact Ti h n b _ _ (by simp[gz,aq])
  · exact⟨gz,rfl⟩
theorem xf:∀(j a:Nat),fI kz (jk all j a) (jk gQ j a)
 |0,a=>trivial
 |j+1,a=>by
  unfold jk
  rcases(Th z (xf j) a).cases with⟨e,b0,J,ae⟩|⟨v,w,b,J,ae,aq⟩
  · simp only[J,ae];trivial
  · simp only[J,ae]
    rw[z.len]
    rcases(Ti z (xf j) (gQ.length-b) b [v] [w] (by simp[aq])).cases with⟨e,b0,aQ,bj⟩|⟨o,p,c,aQ,bj,cW⟩
    · simp only[aQ,bj];trivial
    · simp only[aQ,bj]
      match o,p,cW with
      |[],[],_=>exact⟨by simp only[kz,DS,kb],rfl⟩
      |[x],[y],cW=>exact⟨by simpa using cW,rfl⟩
      |x::cw::l,y::gl::gw,cW=>exact⟨by simp only[kz,DS,cW],rfl⟩
      |[x],y::gl::gw,cW=>simp at cW
      |x::cw::l,[y],cW=>simp at cW
theorem Ml{T S:Nat->bw cG}(h:∀a,fI kz (T a) (S a))(a:Nat):fI kb (pz all T a) (pz gQ S a):=by
 unfold pz
 rw[pG z]
 split
 · rcases(h (a+1)).cases with⟨e,b0,J,ae⟩|⟨v,w,b,J,ae,aq⟩
   · simp only[J,ae];trivial
   · simp only[J,ae];exact⟨by simp only[kb,aq],rfl⟩
 · exact⟨rfl,rfl⟩
theorem afL{T S:Nat->bw cG}(h:∀a,fI kz (T a) (S a))(a:Nat):fI (λx=>(x.1,kb x.2)) (pA all T a) (pA gQ S a):=by
 unfold pA
 rcases(sH z a).cases with⟨e,b0,J,ae⟩|⟨v,w,b,J,ae,rfl⟩
 · simp only[J,ae];trivial
 · simp only[J,ae]
   rcases(Ml z h b).cases with⟨e,b0,cW,eS⟩|⟨v2,b9,d,cW,eS,e6⟩
   · simp only[cW,eS];trivial
   · simp only[cW,eS];exact⟨by simp only[e6],rfl⟩
theorem Tj{T S:Nat->bw cG}(h:∀a,fI kz (T a) (S a))(a:Nat):fI (List.map λx=>(x.1,kb x.2)) (rM all T a) (rM gQ S a):=by
 unfold rM
 rcases(mg z [40] a).cases with⟨e,b0,aQ,bj⟩|⟨c,aQ,bj⟩
 · simp only[aQ,bj];trivial
 · simp only[aQ,bj];exact DT z [41] (afL z h) c
theorem afM(a:Nat):(oN all a).map gp=(oN gQ a).map gp:=by
 unfold oN
 simp only[pG z,z.t,z.k,z.v]
 split
 · rfl
 · split
   · rfl
   · split
     · rfl
     · split<;>rfl
theorem Tk{E G:Nat->bw bX}(h:∀a,fI gp (E a) (G a))(a:Nat):fI gp (nZ all E a) (nZ gQ G a):=by
 unfold nZ
 rcases(mg z [40] a).cases with⟨e,b0,aQ,bj⟩|⟨c,aQ,bj⟩
 · simp only[aQ,bj];trivial
 · simp only[aQ,bj]
   rcases(h c).cases with⟨e,b0,cW,eS⟩|⟨v2,b9,d,cW,eS,e6⟩
   · simp only[cW,eS];trivial
   · simp only[cW,eS]
     rcases(mg z [41] d).cases with⟨e,b0,J,ae⟩|⟨c,J,ae⟩
     · simp only[J,ae];trivial
     · simp only[J,ae];exact⟨e6,rfl⟩
theorem afN{T S:Nat->bw bX}(h:∀a,fI gp (T a) (S a))(a:Nat):fI (λx=>(x.1,gp x.2)) (lR all T a) (lR gQ S a):=by
 unfold lR
 rcases(sH z a).cases with⟨e,b0,J,ae⟩|⟨v,w,b,J,ae,rfl⟩
 · simp only[J,ae];trivial
 · simp only[J,ae]
   rcases(mg z [61] b).cases with⟨e,b0,aQ,bj⟩|⟨c,aQ,bj⟩
   · simp only[aQ,bj];trivial
   · simp only[aQ,bj]
     rcases(h c).cases with⟨e,b0,cW,eS⟩|⟨v2,b9,d,cW,eS,e6⟩
     · simp only[cW,eS];trivial
     · simp only[cW,eS];exact⟨by simp only[e6],rfl⟩
theorem afO{E G:Nat->bw bX}{T S:Nat->bw cG}(h:∀a,fI gp (E a) (G a))(de:∀a,fI kz (T a) (S a))(a:Nat):fI gp (pB all E T a) (pB gQ G S a):=by
 unfold pB
 have aI:=afM z a
 cases J:oN all a with
 |some x=>
  cases ae:oN gQ a with
  |none=>rw[J,ae] at aI;cases aI
  |some y=>rw[J,ae] at aI;exact⟨by simpa using aI,rfl⟩
 |none=>
  cases ae:oN gQ a with
  |some y=>rw[J,ae] at aI;cases aI
  |none=>
   simp only[pG z]
   split
   · rcases(DT z [125] (afN z h) (a+1)).cases with⟨e,b0,J,ae⟩|⟨v,w,b,J,ae,aq⟩
     · simp only[J,ae];trivial
     · simp only[J,ae]
       obtain⟨aO,aZ⟩:=HC z aq
       exact⟨by simp only[gp,Mk,lu,kb,aO,aZ],rfl⟩
   · split
     · rcases(h (a+1)).cases with⟨e,b0,J,ae⟩|⟨v,w,b,J,ae,aq⟩
       · simp only[J,ae];trivial
       · simp only[J,ae]
         split
         · exact⟨aq,rfl⟩
         · split
           · rcases(de (b+1)).cases with⟨e,b0,cW,eS⟩|⟨v2,b9,d,cW,eS,e6⟩
             · simp only[cW,eS];trivial
             · simp only[cW,eS]
               rcases(mg z [41] d).cases with⟨e,b0,aQ,bj⟩|⟨c,aQ,bj⟩
               · simp only[aQ,bj];trivial
               · simp only[aQ,bj];exact⟨by simp only[gp,lu,kb,aq,e6,oO],rfl⟩
           · trivial
     · split
       · rcases(Tg z (a+1)).cases with⟨e,b0,cW,eS⟩|⟨v2,b9,d,cW,eS,e6⟩
         · simp only[cW,eS];trivial
         · simp only[cW,eS]
           rcases(Tk z h d).cases with⟨e,b0,J,ae⟩|⟨v,w,b,J,ae,aq⟩
           · simp only[J,ae];trivial
           · simp only[J,ae];exact⟨by simp only[gp,lu,kb,aq,e6,oO],rfl⟩
       · split
         · rcases(Tk z h (a+1)).cases with⟨e,b0,J,ae⟩|⟨v,w,b,J,ae,aq⟩
           · simp only[J,ae];trivial
           · simp only[J,ae];exact⟨by simp only[gp,lu,kb,aq,oO],rfl⟩
         · trivial
theorem Mm{E G:Nat->bw bX}(h:∀a,fI gp (E a) (G a)):∀(n a:Nat) (l m:bX),gp l=gp m->fI gp (pC all E n a l) (pC gQ G n a m)
 |0,a,l,m,aA=>⟨aA,rfl⟩
 |n+1,a,l,m,aA=>by
  unfold pC
  simp only[pG z]
  split
  · rcases(sH z (a+1)).cases with⟨e,b0,J,ae⟩|⟨v,w,b,J,ae,rfl⟩
    · simp only[J,ae];trivial
    · simp only[J,ae];exact Mm h n b _ _ (by simp only[gp,lu,kb,aA,oO])
  · split
    · rcases(DT z [41] h (a+1)).cases with⟨e,b0,J,ae⟩|⟨v,w,b,J,ae,aq⟩
      · simp only[J,ae];trivial
      · simp only[J,ae];exact Mm h n b _ _ (by simp only[gp,lu,kb,aA,Mk,aq])
    · exact⟨aA,rfl⟩
theorem afP{E G:Nat->bw bX}{T S:Nat->bw cG}(h:∀a,fI gp (E a) (G a))(de:∀a,fI kz (T a) (S a))(a:Nat):fI gp (qH all E T a) (qH gQ G S a):=by
 unfold qH
 rcases(afO z h de a).cases with⟨e,b0,J,ae⟩|⟨v,w,b,J,ae,aq⟩
 · simp only[J,ae];trivial
 · simp only[J,ae]
   rw[z.len]
   exact Mm z h _ _ _ _ aq
theorem Tl{E G U V:Nat->bw bX}{T S:Nat->bw cG}(h:∀a,fI gp (E a) (G a))(de:∀a,fI kz (T a) (S a))(fY:∀a,fI gp (U a) (V a))(a:Nat):fI gp (pD all E T U a) (pD gQ G S V a):=by
 unfold pD
 rw[pG z,z.t]
 split
 · rcases(fY (a+1)).cases with⟨e,b0,J,ae⟩|⟨v,w,b,J,ae,aq⟩
   · simp only[J,ae];trivial
   · simp only[J,ae];exact⟨by simp only[gp,lu,kb,aq,oO],rfl⟩
 · exact afP z h de a
theorem Tm{E G:Nat->bw bX}(h:∀a,fI gp (E a) (G a))(k:Nat):∀(n a:Nat) (l m:bX),gp l=gp m->fI gp (qI all E k n a l) (qI gQ G k n a m)
 |0,a,l,m,aA=>⟨aA,rfl⟩
 |n+1,a,l,m,aA=>by
  unfold qI
  rw[pG z,z.t]
  split
  · rcases(h (a+1)).cases with⟨e,b0,J,ae⟩|⟨v,w,b,J,ae,aq⟩
    · simp only[J,ae];trivial
    · simp only[J,ae];exact Tm h k n b _ _ (by simp only[gp,lu,kb,aA,aq,oO])
  · exact⟨aA,rfl⟩
theorem Mn{U V:Nat->bw bX}(h:∀a,fI gp (U a) (V a)):∀(i a:Nat),fI gp (k9 all U i a) (k9 gQ V i a)
 |0,a=>h a
 |i+1,a=>by
  unfold k9
  rcases(Mn h i a).cases with⟨e,b0,J,ae⟩|⟨v,w,b,J,ae,aq⟩
  · simp only[J,ae];trivial
  · simp only[J,ae]
    rw[z.len]
    exact Tm z (Mn h i) _ _ _ _ _ aq
theorem afQ{E G U V:Nat->bw bX}{T S:Nat->bw cG}(h:∀a,fI gp (E a) (G a))(de:∀a,fI kz (T a) (S a))(fY:∀a,fI gp (U a) (V a))(a:Nat):fI gp (mf all E T U a) (mf gQ G S V a):=by
 unfold mf
 simp only[pG z]
 split
 · rcases(h (a+1)).cases with⟨e,b0,J,ae⟩|⟨v,w,b,J,ae,aq⟩
   · simp only[J,ae];trivial
   · simp only[J,ae]
     rcases(mg z Ht b).cases with⟨e,b0,aQ,bj⟩|⟨c,aQ,bj⟩
     · simp only[aQ,bj];trivial
     · simp only[aQ,bj]
       rcases(h c).cases with⟨e,b0,al,aw⟩|⟨v2,b9,d,al,aw,a1⟩
       · simp only[al,aw];trivial
       · simp only[al,aw]
         rcases(mg z Hu d).cases with⟨e,b0,a5,bc⟩|⟨e,a5,bc⟩
         · simp only[a5,bc];trivial
         · simp only[a5,bc]
           rcases(h e).cases with⟨e,b0,aO,aZ⟩|⟨dP,eH,f,aO,aZ,bC⟩
           · simp only[aO,aZ];trivial
           · simp only[aO,aZ];exact⟨by simp only[gp,lu,kb,aq,a1,bC,oO],rfl⟩
 · split
   · rcases(sH z (a+1)).cases with⟨e,b0,J,ae⟩|⟨v,w,b,J,ae,rfl⟩
     · simp only[J,ae];trivial
     · simp only[J,ae]
       rcases(Ml z de b).cases with⟨e,b0,al,aw⟩|⟨v2,b9,c,al,aw,a1⟩
       · simp only[al,aw];trivial
       · simp only[al,aw]
         rcases(mg z [61] c).cases with⟨e,b0,aQ,bj⟩|⟨d,aQ,bj⟩
         · simp only[aQ,bj];trivial
         · simp only[aQ,bj]
           rcases(h d).cases with⟨e,b0,aO,aZ⟩|⟨dP,eH,f,aO,aZ,bC⟩
           · simp only[aO,aZ];trivial
           · simp only[aO,aZ]
             rcases(mg z Hw f).cases with⟨e,b0,a5,bc⟩|⟨e,a5,bc⟩
             · simp only[a5,bc];trivial
             · simp only[a5,bc]
               rcases(h e).cases with⟨e,b0,cR,gg⟩|⟨v4,jD,g,cR,gg,ry⟩
               · simp only[cR,gg];trivial
               · simp only[cR,gg];exact⟨by simp only[gp,lu,a1,bC,ry,oO],rfl⟩
   · split
     · rcases(Tj z de (a+1)).cases with⟨e,b0,J,ae⟩|⟨v,w,b,J,ae,aq⟩
       · simp only[J,ae];trivial
       · simp only[J,ae]
         rcases(mg z [61,62] b).cases with⟨e,b0,aQ,bj⟩|⟨d,aQ,bj⟩
         · simp only[aQ,bj];trivial
         · simp only[aQ,bj]
           rcases(h d).cases with⟨e,b0,aO,aZ⟩|⟨dP,eH,f,aO,aZ,bC⟩
           · simp only[aO,aZ];trivial
           · simp only[aO,aZ]
             obtain⟨dt,dv⟩:=HC z aq
             exact⟨by simp only[gp,lu,kb,bC,dt,dv,oO],rfl⟩
     · exact Mn z fY 5 a
theorem Tn:∀j,(∀a,fI gp ((nj all j).1 a) ((nj gQ j).1 a))/\∀a,fI gp ((nj all j).2 a) ((nj gQ j).2 a)
 |0=>⟨λa=>trivial,λa=>Tl z (E:=λa=>.error (11,(bR all a).at')) (G:=λa=>.error (11,(bR gQ a).at')) (U:=λa=>.error (11,(bR all a).at')) (V:=λa=>.error (11,(bR gQ a).at')) (λa=>trivial) (xf z 0) (λa=>trivial) a⟩
 |j+1=>by
  obtain⟨J,ae⟩:=Tn j
  have ag:=afQ z J (xf z j) ae
  exact⟨ag,Tl z ag (xf z (j+1)) ae⟩
theorem To{d e:gI}(aH:iL d=iL e)(a:Nat):fI iL (pE all d a) (pE gQ e a):=by
 unfold pE
 rcases(Ml z (xf z 40) a).cases with⟨e,b0,al,aw⟩|⟨v2,b9,c,al,aw,a1⟩
 · simp only[al,aw];trivial
 · simp only[al,aw]
   rcases(mg z [61] c).cases with⟨e,b0,aQ,bj⟩|⟨d,aQ,bj⟩
   · simp only[aQ,bj];trivial
   · simp only[aQ,bj]
     rcases((Tn z 40).1 d).cases with⟨e,b0,aO,aZ⟩|⟨dP,eH,f,aO,aZ,bC⟩
     · simp only[u9,aO,aZ];trivial
     · simp only[u9,aO,aZ]
       unfold iL at aH⊢
       simp only[gI.mk.injEq,true_and,and_true] at aH
       obtain⟨aV,aU,bu,_,_,e7,gL⟩:=aH
       exact⟨by simp only[lu,bC,a1,aV,aU,bu,e7,gL],rfl⟩
theorem afR(a:Nat):fI iL (pF all a) (pF gQ a):=by
 unfold pF
 simp only[pG z]
 split
 · rcases(Te z 4 (a+1)).cases with⟨e,b0,J,ae⟩|⟨v,w,b,J,ae,aq⟩
   · simp only[J,ae];trivial
   · simp only[J,ae]
     simp only[Prod.mk.injEq] at aq
     rcases(mg z Hx b).cases with⟨e,b0,aQ,bj⟩|⟨d,aQ,bj⟩
     · simp only[aQ,bj];trivial
     · simp only[aQ,bj]
       rcases(sH z d).cases with⟨e,b0,al,aw⟩|⟨v2,b9,c,al,aw,rfl⟩
       · simp only[al,aw];trivial
       · simp only[al,aw];exact⟨by simp only[iL,aq.2.1],rfl⟩
 · split
   · rcases(sH z (a+1)).cases with⟨e,b0,al,aw⟩|⟨v2,b9,c,al,aw,rfl⟩
     · simp only[al,aw];trivial
     · simp only[al,aw]
       rcases(mg z [61] c).cases with⟨e,b0,aQ,bj⟩|⟨d,aQ,bj⟩
       · simp only[aQ,bj];trivial
       · simp only[aQ,bj]
         rcases(xf z 40 d).cases with⟨e,b0,aO,aZ⟩|⟨dP,eH,f,aO,aZ,bC⟩
         · simp only[aO,aZ];trivial
         · simp only[aO,aZ];exact⟨by simp only[iL,kb,bC],rfl⟩
   · split
     · rcases(sH z (a+1)).cases with⟨e,b0,al,aw⟩|⟨v2,b9,c,al,aw,rfl⟩
       · simp only[al,aw];trivial
       · simp only[al,aw];exact To z (by simp only[iL]) c
     · split
       · rcases(sH z (a+1)).cases with⟨e,b0,al,aw⟩|⟨v2,b9,c,al,aw,rfl⟩
         · simp only[al,aw];trivial
         · simp only[al,aw]
           rcases(Tj z (xf z 40) c).cases with⟨e,b0,J,ae⟩|⟨v,w,b,J,ae,aq⟩
           · simp only[J,ae];trivial
           · simp only[J,ae]
             obtain⟨dt,dv⟩:=HC z aq
             exact To z (by simp only[iL,dt,dv]) b
       · trivial
theorem Tp:∀(n a:Nat) (o p:List gI),o.map iL=p.map iL->(∃e b0,n1 all n a o=.error e/\n1 gQ n a p=.error b0)\/∃l m,n1 all n a o=.ok l/\n1 gQ n a p=.ok m/\l.map iL=m.map iL
 |0,a,o,p,h=>.inr ⟨o,p,rfl,rfl,h⟩
 |n+1,a,o,p,h=>by
  unfold n1
  rw[z.k]
  split
  · exact .inr ⟨o,p,rfl,rfl,h⟩
  · rcases(afR z a).cases with⟨e,b0,J,ae⟩|⟨v,w,b,J,ae,aq⟩
    · simp only[J,ae];exact .inl ⟨_,_,rfl,rfl⟩
    · simp only[J,ae];exact Tp n b _ _ (by simp[h,aq])
end
end fO
namespace lp
open Go aJ
variable {a k n v:Nat}{b:UInt8}{s t u:List UInt8}
theorem HD:∀(f g:Nat) (s:List UInt8) (a:Nat) (out:List bP),s.length<=f->s.length<=g->ig f s a out=ig g s a out
 |f,g,[],a,out,_,_=>by cases f<;>cases g<;>rfl
 |0,g,b::t,a,out,h,_=>by simp at h
 |f+1,0,b::t,a,out,_,h=>by simp at h
 |f+1,g+1,b::t,a,out,aM,aB=>by
  have aA:=Dx b t
  unfold ig
  simp only
  simp only[List.length_cons] at aM aB
  cases he:el (b::t) with
  |skip n=>rw[he] at aA;simp only;exact HD f g _ _ _ (by have:=aA.1;simp;omega) (by have:=aA.1;simp;omega)
  |bad n=>rfl
  |tok k x v n=>rw[he] at aA;simp only;exact HD f g _ _ _ (by have:=aA.1;simp;omega) (by have:=aA.1;simp;omega)
def hM(b:UInt8):Bool:=ie b||eC b
inductive va:Nat->List UInt8->Nat->List UInt8->Nat->Prop
 |word {c:UInt8} {r:List UInt8}:ie c=true->((c::r).takeWhile hM).length<=24->va (if sC ((c::r).takeWhile hM) then 2 else 1) ((c::r).takeWhile hM) 0 (c::r) ((c::r).takeWhile hM).length
 |int {c:UInt8} {r:List UInt8} {v:Nat}:eC c=true->jI ((c::r).takeWhile eC) 0=some v->va 3 [] v (c::r) ((c::r).takeWhile eC).length
 |text {c:UInt8} {r:List UInt8} {t:List UInt8} {n:Nat}:c.toNat=34->gB (c::r).length r 1 []=.ok t n->va 4 t 0 (c::r) n
 |sign {c:UInt8} {r:List UInt8} {g:List UInt8}:w3 (c::r)=some g->va 5 g 0 (c::r) g.length
theorem afS(h:el u=.tok k t v n):va k t v u n:=by
 cases u with
 |nil=>cases h
 |cons c r=>
  unfold el at h
  simp only at h
  by_cases J:ma c=true
  · rw[if_pos J] at h;cases h
  rw[if_neg J] at h
  by_cases ae:c.toNat=35
  · rw[if_pos ae] at h
    split at h<;>cases h
  rw[if_neg ae] at h
  by_cases aq:ie c=true
  · rw[if_pos aq] at h
    split at h
    · cases h
    · rename_i aA
      cases h
      exact .word aq (by have e:(hM:UInt8->Bool)=(λb=>ie b||eC b):=rfl
                         rw[e];omega)
  rw[if_neg aq] at h
  by_cases aQ:eC c=true
  · rw[if_pos aQ] at h
    split at h
    · cases h
    · rename_i v' aW
      cases h
      exact .int aQ aW
  rw[if_neg aQ] at h
  by_cases bj:c.toNat=34
  · rw[if_pos bj] at h
    split at h
    · rename_i ft Fx aI
      cases h
      exact .text bj aI
    · cases h
  rw[if_neg bj] at h
  split at h
  · cases h
  · rename_i g aB
    cases h
    exact .sign aB
def n2(b:UInt8):List UInt8:=if b.toNat=34\/b.toNat=92 then[92,b] else if b.toNat=10 then[92,110] else[b]
def iM(t:List UInt8):List UInt8:=t.flatMap n2
theorem Tq(a b:List UInt8):iM (a++b)=iM a++iM b:=List.flatMap_append
theorem afT(b:UInt8):(n2 b).length<=2:=by unfold n2;split<;>(try split)<;>simp
theorem Tr:∀t:List UInt8,(iM t).length<=2*t.length
 |[]=>Nat.le_refl _
 |b::t=>by
  have:=Tr t
  have:=afT b
  show(n2 b++iM t).length<=_
  rw[List.length_append,List.length_cons];omega
def n3(n:Nat):List UInt8:=if n<10 then[UInt8.ofNat (48+n)] else n3 (n/10)++[UInt8.ofNat (48+n %10)]
def wr(t:bP):List UInt8:=if t.k=3 then n3 t.v else if t.k=4 then 34::iM t.t++[34] else t.t
def Chunk(c:List UInt8):Prop:=(∃b:UInt8,c=[b]/\b.toNat<128)\/(2<=c.length/\(∀x∈c,128<=x.toNat)/\∀r,ec (c++r)=c.length)
def qJ(t:List UInt8):Prop:=∃l:List (List UInt8),t=l.flatten/\∀c∈l,Chunk c
theorem qJ.nil:qJ []:=⟨[],rfl,λ_ h=>by cases h⟩
theorem qJ.snoc{c:List UInt8}:qJ t->Chunk c->qJ (t++c)
 |⟨l,e,h⟩,ak=>⟨l++[c],by simp[e],λx ab=>by
  rcases List.mem_append.1 ab with J|J
  · exact h x J
  · rw[List.mem_singleton.1 J];exact ak⟩
theorem afU(h:ec (b::t)=n+1):Chunk (b::t.take n):=by
 by_cases h0:b.toNat<128
 · have:ec (b::t)=1:=by simp only[ec,if_pos h0]
   obtain rfl:n=0:=by omega
   exact .inl ⟨b,rfl,h0⟩
 · right
   have OU:128<=b.toNat:=by omega
   have key:∀{lo hi:Nat},128<=lo->second b.toNat=(lo,hi,2)\/second b.toNat=(lo,hi,3)\/second b.toNat=(lo,hi,4)->2<=(b::t.take n).length/\(∀x∈b::t.take n,128<=x.toNat)/\∀r,ec (b::t.take n++r)=(b::t.take n).length:=by
    intro lo hi iO ah
    rcases ah with ah|ah|ah
    · rw[GY h0 ah] at h
      split at h
      · rename_i hw
        obtain rfl:n=1:=by omega
        obtain⟨y,r,rfl,ej,gl⟩:=w2 hw
        refine⟨by simp,λx ab=>?_,λr'=>?_⟩
        · simp at ab;rcases ab with rfl|rfl<;>omega
        · show ec (b::y::r')=2
          rw[GY h0 ah,if_pos (by simpa[c5] using⟨ej,gl⟩)]
      · cases h
    · rw[A1 h0 ah] at h
      split at h
      · rename_i hw
        obtain rfl:n=2:=by omega
        rw[Bool.and_eq_true] at hw
        obtain⟨y,r,rfl,ej,gl⟩:=w2 hw.1
        have p0:=hw.2
        rw[List.drop_succ_cons,List.drop_zero] at p0
        obtain⟨z,b3,rfl,cN,ea⟩:=w2 p0
        refine⟨by simp,λx ab=>?_,λr'=>?_⟩
        · simp at ab;rcases ab with rfl|rfl|rfl<;>omega
        · show ec (b::y::z::r')=3
          rw[A1 h0 ah,if_pos (by simp[c5,ej,gl,cN,ea])]
      · cases h
    · rw[y3 h0 ah] at h
      split at h
      · rename_i hw
        obtain rfl:n=3:=by omega
        simp only[Bool.and_eq_true] at hw
        obtain⟨y,r,rfl,ej,gl⟩:=w2 hw.1.1
        have p0:=hw.1.2
        have Ts:=hw.2
        rw[List.drop_succ_cons,List.drop_zero] at p0
        obtain⟨z,b3,rfl,cN,ea⟩:=w2 p0
        simp only[List.drop_succ_cons,List.drop_zero] at Ts
        obtain⟨w,hj,rfl,b_,b9⟩:=w2 Ts
        refine⟨by simp,λx ab=>?_,λr'=>?_⟩
        · simp at ab;rcases ab with rfl|rfl|rfl|rfl<;>omega
        · show ec (b::y::z::w::r')=4
          rw[y3 h0 ah,if_pos (by simp[c5,ej,gl,cN,ea,b_,b9])]
      · cases h
   rcases GR b.toNat with⟨_,_,he⟩|⟨_,he⟩|⟨_,he⟩|⟨_,_,_,he⟩|⟨_,he⟩|⟨_,_,he⟩|⟨_,he⟩|⟨_,he⟩
   · exact key (by omega) (.inl he)
   · exact key (by omega) (.inr (.inl he))
   · exact key (by omega) (.inr (.inl he))
   · exact key (by omega) (.inr (.inl he))
   · exact key (by omega) (.inr (.inr he))
   · exact key (by omega) (.inr (.inr he))
   · exact key (by omega) (.inr (.inr he))
   · rw[RM h0 he] at h;cases h
theorem xg:∀(f g:Nat) (s:List UInt8) (off:Nat) (out:List UInt8),s.length<=f->s.length<=g->gB f s off out=gB g s off out
 |f,g,[],off,out,_,_=>by cases f<;>cases g<;>rfl
 |0,g,b::t,off,out,h,_=>by simp at h
 |f+1,0,b::t,off,out,_,h=>by simp at h
 |f+1,g+1,b::t,off,out,aM,aB=>by
  simp only[List.length_cons] at aM aB
  unfold gB
  simp only
  split
  · rfl
  split
  · rfl
  split
  · cases t with
    |nil=>rfl
    |cons e ft=>
     simp only[List.length_cons] at aM aB
     simp only
     split
     · exact xg f g _ _ _ (by omega) (by omega)
     split
     · exact xg f g _ _ _ (by omega) (by omega)
     · rfl
  · cases ec (b::t) with
    |zero=>rfl
    |succ n=>simp only;exact xg f g _ _ _ (by simp;omega) (by simp;omega)
theorem afV(h:b.toNat=n):b=UInt8.ofNat n:=(of_nat_eq h.symm).symm
theorem Tt:∀(c:List UInt8),(∀x∈c,128<=x.toNat)->iM c=c
 |[],_=>rfl
 |b::t,h=>by
  have ag:=h b (by simp)
  show n2 b++iM t=_
  rw[Tt t (λx ab=>h x (by simp[ab]))]
  unfold n2
  rw[if_neg (by omega),if_neg (by omega)];rfl
theorem afW{c:List UInt8}(ak:Chunk c)(r:List UInt8)(off:Nat)(out:List UInt8)(f:Nat)(aM:(iM c++r).length<=f):gB f (iM c++r) off out=gB r.length r (off+(iM c).length) (out++c):=by
 rcases ak with⟨b,rfl,ag⟩|⟨ae,ar,aj⟩
 · have e:iM [b]=n2 b:=by simp[iM]
   rw[e] at aM⊢
   by_cases J:b.toNat=34\/b.toNat=92
   · have aE:n2 b=[92,b]:=by unfold n2;rw[if_pos J]
     rw[aE] at aM⊢
     obtain⟨g,rfl⟩:∃g,f=g+1:=⟨f-1,by simp at aM;omega⟩
     show gB (g+1) (92::b::r) off out=_
     rw[GX (by decide)]
     simp only[if_pos J]
     exact xg _ _ _ _ _ (by simp at aM;omega) (Nat.le_refl _)
   by_cases aq:b.toNat=10
   · have aE:n2 b=[92,110]:=by unfold n2;rw[if_neg J,if_pos aq]
     rw[aE] at aM⊢
     obtain⟨g,rfl⟩:∃g,f=g+1:=⟨f-1,by simp at aM;omega⟩
     show gB (g+1) (92::110::r) off out=_
     rw[GX (by decide),afV aq]
     simp only[show¬((110:UInt8).toNat=34\/(110:UInt8).toNat=92) by decide,if_false,show(110:UInt8).toNat=110 from rfl,if_true]
     exact xg _ _ _ _ _ (by simp at aM;omega) (Nat.le_refl _)
   · have aE:n2 b=[b]:=by unfold n2;rw[if_neg J,if_neg aq]
     rw[aE] at aM⊢
     obtain⟨g,rfl⟩:∃g,f=g+1:=⟨f-1,by simp at aM;omega⟩
     show gB (g+1) (b::r) off out=_
     rw[GW aq (by omega) (by omega),show ec (b::r)=0+1 by simp only[ec,if_pos ag]]
     simp only[Nat.zero_add,List.drop_succ_cons,List.drop_zero,List.take_succ_cons,List.take_zero]
     exact xg _ _ _ _ _ (by simp at aM;omega) (Nat.le_refl _)
 · rw[Tt c ar] at aM⊢
   cases c with
   |nil=>simp at ae
   |cons b t=>
    have ag:=ar b (by simp)
    obtain⟨g,rfl⟩:∃g,f=g+1:=⟨f-1,by simp at aM;omega⟩
    have gh:=aj r
    rw[List.cons_append] at gh⊢
    rw[GW (by omega) (by omega) (by omega),gh,List.length_cons]
    simp only[List.drop_succ_cons,List.take_succ_cons]
    rw[List.drop_left,List.take_left]
    exact xg _ _ _ _ _ (by simp at aM;omega) (Nat.le_refl _)
theorem Tu:∀(l:List (List UInt8)),(∀c∈l,Chunk c)->∀(r:List UInt8) (off:Nat) (out:List UInt8) (f:Nat),(iM l.flatten++r).length<=f->gB f (iM l.flatten++r) off out=gB r.length r (off+(iM l.flatten).length) (out++l.flatten)
 |[],_,r,off,out,f,aM=>by
  simp only[List.flatten_nil,List.append_nil]
  exact xg _ _ _ _ _ (by simpa[iM] using aM) (Nat.le_refl _)
 |c::l,h,r,off,out,f,aM=>by
  have e:iM (c::l).flatten++r=iM c++(iM l.flatten++r):=by rw[List.flatten_cons,Tq,List.append_assoc]
  rw[e] at aM⊢
  rw[afW (h c (by simp)) _ off out f aM,Tu l (λx ab=>h x (by simp[ab])) r _ _ _ (Nat.le_refl _),List.flatten_cons,Tq,List.length_append,List.append_assoc,Nat.add_assoc]
theorem afX(aI:qJ t)(r:List UInt8)(f:Nat)(aM:(iM t++34::r).length<=f):gB f (iM t++34::r) 1 []=.ok t ((iM t).length+2):=by
 obtain⟨l,rfl,h⟩:=aI
 rw[Tu l h (34::r) 1 [] f aM,List.length_cons,Lk (by decide)]
 simp only[List.nil_append]
 congr 1;omega
theorem DU:∀(f:Nat) (s:List UInt8) (off:Nat) (out t:List UInt8) (n:Nat),gB f s off out=.ok t n->qJ out->qJ t/\t.length+off+1<=n+out.length
 |0,s,off,out,t,n,h,_=>by cases h
 |f+1,[],off,out,t,n,h,_=>by cases h
 |f+1,b::r,off,out,t,n,h,bg=>by
  by_cases J:b.toNat=10
  · unfold gB at h;simp only[if_pos J] at h;cases h
  by_cases ae:b.toNat=34
  · rw[Lk ae] at h;cases h;exact⟨bg,by omega⟩
  by_cases aq:b.toNat=92
  · rw[GX aq] at h
    cases r with
    |nil=>cases h
    |cons e ft=>
     simp only at h
     split at h
     · rename_i he
       have:=DU f _ _ _ _ _ h (bg.snoc (.inl ⟨e,rfl,by omega⟩))
       exact⟨this.1,by have:=this.2;simp at this;omega⟩
     split at h
     · have:=DU f _ _ _ _ _ h (bg.snoc (.inl ⟨10,rfl,by decide⟩))
       exact⟨this.1,by have:=this.2;simp at this;omega⟩
     · cases h
  · rw[GW J ae aq] at h
    cases ak:ec (b::r) with
    |zero=>rw[ak] at h;cases h
    |succ m=>
     rw[ak] at h
     simp only at h
     have:=DU f _ _ _ _ _ h (bg.snoc (afU ak))
     refine⟨this.1,?_⟩
     have bj:=this.2
     simp only[List.length_append,List.length_cons,List.length_take] at bj
     omega
theorem Mo{l:List UInt8}(h:jI (b::l) n=some v):n<=(9223372036854775807-(b.toNat-48))/10/\jI l (10*n+(b.toNat-48))=some v:=by
 unfold jI at h
 simp only at h
 split at h
 · cases h
 · exact⟨by omega,h⟩
theorem Tv:∀(l:List UInt8) (n v:Nat),jI l n=some v->n<9223372036854775808->(∀b∈l,eC b=true)->v<9223372036854775808
 |[],n,v,h,aT,_=>by cases h;exact aT
 |b::l,n,v,h,aT,aH=>by
  obtain⟨J,ae⟩:=Mo h
  have ag:=aH b (by simp)
  simp[eC] at ag
  exact Tv l _ v ae (by omega) λx ab=>aH x (by simp[ab])
theorem Tw:∀(l:List UInt8) (n v:Nat),jI l n=some v->(∀b∈l,eC b=true)->v+1<=(n+1)*10^l.length
 |[],n,v,h,_=>by cases h;simp
 |b::l,n,v,h,aH=>by
  obtain⟨J,ae⟩:=Mo h
  have ag:=aH b (by simp)
  simp[eC] at ag
  have bM:=Tw l _ v ae λx ab=>aH x (by simp[ab])
  rw[List.length_cons,Nat.pow_succ]
  refine Nat.le_trans bM ?_
  have e:(n+1)*(10^l.length*10)=(10*n+10)*10^l.length:=by
   rw[Nat.mul_comm (10^l.length) 10,<-Nat.mul_assoc];congr 1;omega
  rw[e]
  exact Nat.mul_le_mul_right _ (by omega)
theorem Tx:∀(k v:Nat),v<10^(k+1)->(n3 v).length<=k+1
 |0,v,h=>by unfold n3;rw[if_pos (by simpa using h)];simp
 |k+1,v,h=>by
  unfold n3
  split
  · simp
  · have:=Tx k (v/10) (by rw[Nat.pow_succ] at h;omega)
    simp;omega
theorem afY:∀(v:Nat),(∃b l,n3 v=b::l)/\(∀b∈n3 v,eC b=true):=by
 intro v
 induction v using Nat.strongRecOn with
 |_ v bM=>
  have aH:∀d,d<10->eC (UInt8.ofNat (48+d))=true:=by decide
  unfold n3
  split
  · exact⟨⟨_,_,rfl⟩,λb ag=>by rw[List.mem_singleton.1 ag];exact aH v (by omega)⟩
  · obtain⟨⟨b,l,e⟩,h⟩:=bM (v/10) (by omega)
    refine⟨⟨b,l++[UInt8.ofNat (48+v %10)],by rw[e];rfl⟩,λx ab=>?_⟩
    rcases List.mem_append.1 ab with J|J
    · exact h x J
    · rw[List.mem_singleton.1 J];exact aH _ (by omega)
theorem Mp:∀(l:List UInt8) (b:UInt8) (n m:Nat),jI l n=some m->m<=(9223372036854775807-(b.toNat-48))/10->jI (l++[b]) n=some (10*m+(b.toNat-48))
 |[],b,n,m,h,hm=>by
  cases h
  show jI [b] n=_
  unfold jI
  simp only
  rw[if_neg (by omega)];rfl
 |c::l,b,n,m,h,hm=>by
  obtain⟨J,ae⟩:=Mo h
  have:=Mp l b _ m ae hm
  show jI (c::(l++[b])) n=_
  unfold jI
  simp only
  rw[if_neg (by omega)];exact this
theorem Mq(d:Nat)(h:d<10):(UInt8.ofNat (48+d)).toNat-48=d:=by
 have:∀d,d<10->(UInt8.ofNat (48+d)).toNat-48=d:=by decide
 exact this d h
theorem afZ(v:Nat)(aW:v<9223372036854775808):jI (n3 v) 0=some v:=by
 induction v using Nat.strongRecOn with
 |_ v bM=>
  unfold n3
  split
  · rename_i h
    have:=Mp [] (UInt8.ofNat (48+v)) 0 0 rfl (Nat.zero_le _)
    rw[Mq v h] at this
    simpa using this
  · have J:=bM (v/10) (by omega) (by omega)
    have:=Mp _ (UInt8.ofNat (48+v %10)) 0 _ J (by rw[Mq _ (by omega)];omega)
    rw[this,Mq _ (by omega)]
    congr 1;omega
theorem Mr{p:UInt8->Bool}{l:List UInt8}(h:b∈l.takeWhile p):p b=true:=by
 induction l with
 |nil=>cases h
 |cons c l bM=>
  rw[List.takeWhile_cons] at h
  split at h
  · rename_i ak
    rcases List.mem_cons.1 h with rfl|J
    · exact ak
    · exact bM J
  · cases h
theorem Ty{p:UInt8->Bool}{c:UInt8}{r:List UInt8}(h:p c=true):(c::r).takeWhile p=c::r.takeWhile p:=by rw[List.takeWhile_cons,if_pos h]
theorem HE(aq:k≠3)(aQ:k≠4):wr ⟨k,t,v,a⟩=t:=by unfold wr;rw[if_neg aq,if_neg aQ]
theorem af0(h:va k t v u n):(wr ⟨k,t,v,a⟩).length<=2*n:=by
 cases h with
 |@word c r J ae=>
  have e:wr ⟨if sC ((c::r).takeWhile hM) then 2 else 1,(c::r).takeWhile hM,0,a⟩=(c::r).takeWhile hM:=by
   exact HE (by split<;>decide) (by split<;>decide)
  rw[e];omega
 |@int c r v J ae=>
  show(n3 v).length<=_
  have aq:=Tw _ _ _ ae λb ag=>Mr ag
  rw[Ty J] at aq⊢
  rw[List.length_cons] at aq⊢
  have:=Tx (r.takeWhile eC).length v (by omega)
  omega
 |@text c r t n J ae=>
  have:=(DU _ _ _ _ _ _ ae qJ.nil).2
  have aq:=Tr t
  show(34::iM t++[34]).length<=_
  simp at this⊢;omega
 |@sign c r g J=>show t.length<=_;omega
structure vb(s:List UInt8)(a:Nat)(out:List bP):Prop where
 each:∀t∈out,t.at'<a/\∃n,va t.k t.t t.v (s.drop t.at') n
 inc:out.Pairwise λx y=>x.at'<y.at'
 sum:(out.map λt=>(wr t).length).sum<=2*a
 len:out.length<=a
theorem vb.mono{a6:Nat}{out:List bP}(h:vb s a out)(a_:a<=a6):vb s a6 out:=
 ⟨λt aI=>⟨Nat.lt_of_lt_of_le (h.each t aI).1 a_,(h.each t aI).2⟩,h.inc,by have:=h.sum;omega,by have:=h.len;omega⟩
theorem vb.put{out:List bP}(h:vb s a out)(aT:1<=n)(aI:va k t v (s.drop a) n):vb s (a+n) (out++[⟨k,t,v,a⟩]):=by
 refine⟨λx ab=>?_,?_,?_,?_⟩
 · rcases List.mem_append.1 ab with J|J
   · exact⟨by have:=(h.each x J).1;omega,(h.each x J).2⟩
   · rw[List.mem_singleton.1 J];exact⟨by show a<a+n;omega,n,aI⟩
 · rw[List.pairwise_append]
   refine⟨h.inc,by simp,λx ab y bH=>?_⟩
   rw[List.mem_singleton.1 bH];exact(h.each x ab).1
 · rw[List.map_append,List.sum_append]
   have:=h.sum
   have:=af0 (a:=a) aI
   simp;omega
 · have:=h.len;simp;omega
theorem Ms:∀(f a:Nat) (s:List UInt8) (out res:List bP),s.length-a<=f->a<=s.length->ig f (s.drop a) a out=.ok res->vb s a out->∃qD,res=qD++[⟨0,[],0,s.length⟩]/\vb s s.length qD
 |0,a,s,out,res,aM,a_,h,aI=>by
  obtain rfl:a=s.length:=by omega
  cases h
  exact⟨out,rfl,aI⟩
 |f+1,a,s,out,res,aM,a_,h,aI=>by
  rcases Nat.lt_or_ge a s.length with cf|tr
  · have aH:=List.drop_eq_getElem_cons cf
    have Bb:(s.drop a).length=s.length-a:=List.length_drop
    have jC:=Dx s[a] (s.drop (a+1))
    rw[<-aH,show(s.drop (a+1)).length+1=(s.drop a).length by rw[aH];rfl,Bb] at jC
    unfold ig at h
    rw[aH] at h
    simp only at h
    rw[<-aH] at h
    cases he:el (s.drop a) with
    |skip n=>
     rw[he] at h jC
     simp only at h
     rw[List.drop_drop] at h
     exact Ms f (a+n) s out res (by have:=jC.1;omega) (by have:=jC.2;omega) h (aI.mono (by omega))
    |bad n=>rw[he] at h;cases h
    |tok k t v n=>
     rw[he] at h jC
     simp only at h
     rw[List.drop_drop] at h
     exact Ms f (a+n) s _ res (by have:=jC.1;omega) (by have:=jC.2;omega) h (aI.put jC.1 (afS he))
  · obtain rfl:a=s.length:=by omega
    unfold ig at h
    rw[List.drop_length] at h
    cases h
    exact⟨out,rfl,aI⟩
theorem Mt{res:List bP}(h:px s=.ok res):∃out,res=out++[⟨0,[],0,s.length⟩]/\vb s s.length out:=
 Ms s.length 0 s [] res (by omega) (Nat.zero_le _) (by rw[List.drop_zero];exact h) ⟨λ_ h=>(by cases h),.nil,(by simp),(by simp)⟩
def zj:List (List UInt8):=[[32],[10],[9,32,13,10],[32,35,32,97,32,114,101,109,97,114,107,44,32,34,115,111,10],[35,10]]
def zk:List UInt8:=[32,10,9,35]
def Canon(t:bP):Prop:=
 (∃b l,t.t=b::l/\ie b=true/\(∀x∈t.t,hM x=true)/\t.t.length<=24/\t.k=(if sC t.t then 2 else 1)/\t.v=0)\/(t.k=3/\t.t=[]/\t.v<9223372036854775808)\/(t.k=4/\t.v=0/\qJ t.t)\/(t.k=5/\t.v=0/\t.t∈k7)
theorem af1(h:va k t v u n):Canon ⟨k,t,v,a⟩:=by
 cases h with
 |@word c r J ae=>exact .inl ⟨c,r.takeWhile hM,Ty (by simp[hM,J]),J,λx ab=>Mr ab,ae,rfl,rfl⟩
 |@int c r v J ae=>exact .inr (.inl ⟨rfl,rfl,Tv _ _ _ ae (by omega) λb ag=>Mr ag⟩)
 |@text c r t n J ae=>exact .inr (.inr (.inl ⟨rfl,rfl,(DU _ _ _ _ _ _ ae qJ.nil).1⟩))
 |@sign c r g J=>exact .inr (.inr (.inr ⟨rfl,rfl,(Le J).1⟩))
theorem Tz(h:ie b=true):ma b=false/\¬b.toNat=35:=by
 simp[ie] at h
 simp[ma];omega
theorem af2(h:eC b=true):ma b=false/\¬b.toNat=35/\ie b=false:=by
 simp[eC] at h
 simp[ma,ie];omega
theorem TA:∀c∈zk,hM c=false/\eC c=false:=by decide
theorem af3(r:List UInt8):∀g∈k7,∀c∈zk,el (g++c::r)=.tok 5 g 0 g.length:=by
 intro g aB c ak
 simp only[k7,List.mem_cons,List.not_mem_nil,or_false] at aB
 simp only[zk,List.mem_cons,List.not_mem_nil,or_false] at ak
 rcases aB with rfl|rfl|rfl|rfl|rfl|rfl|rfl|rfl|rfl|rfl|rfl|rfl|rfl|rfl|rfl|rfl|rfl<;>rcases ak with rfl|rfl|rfl|rfl<;>rfl
theorem af4(aI:qJ t)(r:List UInt8):el (34::(iM t++34::r))=.tok 4 t 0 ((iM t).length+2):=by
 have e:∀u:List UInt8,el (34::u)=match gB (34::u).length u 1 [] with|.ok t n=>.tok 4 t 0 n|.bad n=>.bad n:=λu=>rfl
 rw[e,afX aI r _ (by simp)]
theorem TB{t:bP}(h:Canon t){c:UInt8}(ak:c∈zk)(r:List UInt8):el (wr t++c::r)=.tok t.k t.t t.v (wr t).length:=by
 obtain⟨k,w,v,p⟩:=t
 rcases h with⟨b,l,J,ae,aq,aQ,bj,cW⟩|⟨J,ae,aq⟩|⟨J,ae,aq⟩|⟨J,ae,aq⟩
 · simp only at J ae aq aQ bj cW
   have hw:wr ⟨k,w,v,p⟩=w:=by
    exact HE (by rw[bj];split<;>decide) (by rw[bj];split<;>decide)
   rw[hw]
   have aI:(w++c::r).takeWhile hM=w:=by
    rw[List.takeWhile_append_of_pos aq,List.takeWhile_cons,if_neg (by simp[(TA c ak).1]),List.append_nil]
   have ab:w++c::r=b::(l++c::r):=by rw[J];rfl
   rw[ab] at aI⊢
   unfold el
   simp only[(Tz ae).1,(Tz ae).2,ae,Bool.false_eq_true,if_false,if_true]
   have e:(λb=>ie b||eC b)=hM:=rfl
   rw[e,aI,if_neg (by omega),bj,cW]
 · simp only at J ae aq
   subst J ae
   show el (n3 v++c::r)=.tok 3 [] v (n3 v).length
   obtain⟨⟨b,l,e⟩,aH⟩:=afY v
   have aI:(n3 v++c::r).takeWhile eC=n3 v:=by
    rw[List.takeWhile_append_of_pos aH,List.takeWhile_cons,if_neg (by simp[(TA c ak).2]),List.append_nil]
   have ag:=af2 (aH b (by rw[e];simp))
   have en:eC b=true:=aH b (by rw[e];simp)
   have aT:=afZ v aq
   rw[e] at aI aT⊢
   rw[List.cons_append] at aI⊢
   unfold el
   simp only[ag.1,ag.2.1,ag.2.2,en,Bool.false_eq_true,if_false,if_true]
   rw[aI,aT]
 · simp only at J ae aq
   subst J ae
   show el (34::iM w++[34]++c::r)=.tok 4 w 0 (34::iM w++[34]).length
   have:=af4 aq (c::r)
   simp at this⊢
   exact this
 · simp only at J ae aq
   subst J ae
   exact af3 r w aq c ak
theorem TC(h:el u=.tok k t v n)(f a:Nat)(out:List bP)(aM:u.length<=f):ig f u a out=ig (u.drop n).length (u.drop n) (a+n) (out++[⟨k,t,v,a⟩]):=by
 cases u with
 |nil=>cases h
 |cons b r=>
  have aA:=Dx b r
  rw[h] at aA
  obtain⟨g,rfl⟩:∃g,f=g+1:=⟨f-1,by simp at aM;omega⟩
  rw[ig]
  simp only[h]
  exact HD _ _ _ _ _ (by have:=aA.1;simp at aM⊢;omega) (Nat.le_refl _)
theorem DV(h:el u=.skip n)(f a:Nat)(out:List bP)(aM:u.length<=f):ig f u a out=ig (u.drop n).length (u.drop n) (a+n) out:=by
 cases u with
 |nil=>cases h
 |cons b r=>
  have aA:=Dx b r
  rw[h] at aA
  obtain⟨g,rfl⟩:∃g,f=g+1:=⟨f-1,by simp at aM;omega⟩
  rw[ig]
  simp only[h]
  exact HD _ _ _ _ _ (by have:=aA.1;simp at aM⊢;omega) (Nat.le_refl _)
theorem TD(r:List UInt8)(h:ma b=true):el (b::r)=.skip 1:=by unfold el;simp only;rw[if_pos h]
theorem TE(r:List UInt8):∀g∈zj,∀(f a:Nat) (out:List bP),(g++r).length<=f->ig f (g++r) a out=ig r.length r (a+g.length) out:=by
 intro g aB f a out aM
 have aG:∀(b:UInt8) (u:List UInt8) (f a:Nat),ma b=true->(b::u).length<=f->ig f (b::u) a out=ig u.length u (a+1) out:=λb u f a ag aM=>DV (TD u ag) f a out aM
 simp only[zj,List.mem_cons,List.not_mem_nil,or_false] at aB
 rcases aB with rfl|rfl|rfl|rfl|rfl
 · exact aG 32 r f a (by decide) aM
 · exact aG 10 r f a (by decide) aM
 · exact(aG 9 (32::13::10::r) f a (by decide) aM).trans ((aG 32 (13::10::r) _ _ (by decide) (Nat.le_refl _)).trans ((aG 13 (10::r) _ _ (by decide) (Nat.le_refl _)).trans (aG 10 r _ _ (by decide) (Nat.le_refl _))))
 · have he:el (35::32::97::32::114::101::109::97::114::107::44::32::34::115::111::10::r)=.skip 15:=rfl
   exact(aG 32 (35::32::97::32::114::101::109::97::114::107::44::32::34::115::111::10::r) f a (by decide) aM).trans ((DV he _ _ _ (Nat.le_refl _)).trans (aG 10 r _ _ (by decide) (Nat.le_refl _)))
 · have he:el (35::10::r)=.skip 1:=rfl
   exact(DV he f a out aM).trans (aG 10 r _ _ (by decide) (Nat.le_refl _))
def cat:List (List UInt8×bP)->List UInt8
 |[]=>[]
 |x::l=>x.1++(wr x.2++cat l)
def Mu:Nat->List (List UInt8×bP)->List bP
 |_,[]=>[]
 |a,x::l=>{x.2 with at':=a+x.1.length}::Mu (a+x.1.length+(wr x.2).length) l
theorem TF:∀g∈zj,∃c r,g=c::r/\c∈zk:=by
 intro g aB
 simp only[zj,List.mem_cons,List.not_mem_nil,or_false] at aB
 rcases aB with rfl|rfl|rfl|rfl|rfl<;>exact⟨_,_,rfl,by decide⟩
theorem back:∀(l:List (List UInt8×bP)) (a:Nat) (out:List bP) (f:Nat) (jU:List UInt8),(∀x∈l,x.1∈zj/\Canon x.2)->jU∈zj->(cat l++jU).length<=f->
  ig f (cat l++jU) a out=.ok (out++Mu a l++[⟨0,[],0,a+(cat l++jU).length⟩])
 |[],a,out,f,jU,_,aB,aM=>by
  have:=TE [] jU aB f a out (by simpa[cat] using aM)
  rw[List.append_nil] at this
  show ig f jU a out=_
  rw[this]
  show _=Except.ok (out++[]++[⟨0,[],0,a+jU.length⟩])
  rw[List.append_nil];rfl
 |x::l,a,out,f,jU,h,aB,aM=>by
  obtain⟨ab,ak⟩:=h x (by simp)
  have e:cat (x::l)++jU=x.1++(wr x.2++(cat l++jU)):=by
   show x.1++(wr x.2++cat l)++jU=_
   simp
  obtain⟨c,r,J,ae⟩:∃c r,cat l++jU=c::r/\c∈zk:=by
   cases l with
   |nil=>exact TF jU aB
   |cons y l=>
    obtain⟨c,r,aG,aE⟩:=TF y.1 (h y (by simp)).1
    exact⟨c,r++(wr y.2++cat l)++jU,by show y.1++_++jU=_;rw[aG];simp,aE⟩
  rw[e] at aM⊢
  rw[TE _ x.1 ab f a out aM]
  have he:=TB ak ae r
  rw[<-J] at he
  rw[TC he _ _ _ (Nat.le_refl _),List.drop_left,back l _ _ _ jU (λy bH=>h y (by simp[bH])) aB (Nat.le_refl _)]
  show _=Except.ok (out++({x.2 with at':=a+x.1.length}::Mu _ l)++_)
  simp
  omega
def dO(b1:List UInt8)(i:Nat):List UInt8:=if h:0<b1.length then zj.getD ((b1[i %b1.length]'(Nat.mod_lt _ h)).toNat %5) [] else[32]
end lp
namespace fO
open lp
variable {E U:Nat->bw bX}{T:Nat->bw cG}{a b:Nat}{d:List gI}{l:List (bP×bJ)}{s:bJ}
def iU:List bJ:=[[32],[10],[9,32],[32,35,32,41,32,123,10]]
def n4:List bJ:=[[120],[102],[40],[41],[123],[125],[97],[61],[49],[43],[42],[46],[110,111,116],[105,102],[116,104,101,110],[101,108,115,101],[108,101,116],[105,110],[44],[102,110],[61,62],[105,110,116],[58],[45,62],[124],[34,115,34],[116,121,112,101],[84]]
def qK(w:bJ):bP:=if w=[49] then⟨3,[],1,0⟩ else if w=[34,115,34] then⟨4,[115],0,0⟩ else if w∈k7 then⟨5,w,0,0⟩ else⟨if sC w then 2 else 1,w,0,0⟩
theorem TG:∀w∈n4,wr (qK w)=w:=by
 intro w hw
 simp only[n4,List.mem_cons,List.not_mem_nil,or_false] at hw
 rcases hw with rfl|rfl|rfl|rfl|rfl|rfl|rfl|rfl|rfl|rfl|rfl|rfl|rfl|rfl|rfl|rfl|rfl|rfl|rfl|rfl|rfl|rfl|rfl|rfl|rfl|rfl|rfl|rfl<;>first|rfl|decide|(unfold wr n3;decide)
theorem af5:qJ [115]:=⟨[[115]],rfl,λc ak=>by obtain rfl:=List.mem_singleton.1 ak;exact .inl ⟨115,rfl,by decide⟩⟩
theorem TH{w:bJ}(h:(match w with|b::_=>ie b|[]=>false)=true)(ae:w.all hM=true)(aq:w.length<=24):Canon ⟨if sC w then 2 else 1,w,0,0⟩:=by
 cases w with
 |nil=>cases h
 |cons b l=>exact .inl ⟨b,l,rfl,h,λx ab=>List.all_eq_true.1 ae x ab,aq,rfl,rfl⟩
theorem HF:∀w∈n4,Canon (qK w):=by
 intro w hw
 unfold qK
 by_cases J:w=[49]
 · rw[if_pos J];exact .inr (.inl ⟨rfl,rfl,by decide⟩)
 rw[if_neg J]
 by_cases ae:w=[34,115,34]
 · rw[if_pos ae];exact .inr (.inr (.inl ⟨rfl,rfl,af5⟩))
 rw[if_neg ae]
 by_cases aq:w∈k7
 · rw[if_pos aq];exact .inr (.inr (.inr ⟨rfl,rfl,aq⟩))
 rw[if_neg aq]
 have key:∀w∈n4,w=[49]\/w=[34,115,34]\/w∈k7\/((match w with|b::_=>ie b|[]=>false)=true/\w.all hM=true/\w.length<=24):=by decide
 rcases key w hw with h|h|h|⟨aO,aZ,bC⟩
 · exact absurd h J
 · exact absurd h ae
 · exact absurd h aq
 · exact TH aO aZ bC
def hY(l:List (bP×bJ)):bJ:=l.flatMap λx=>wr x.1++x.2
def nm:Nat->List (bP×bJ)->List bP
 |_,[]=>[]
 |a,x::l=>{x.1 with at':=a}::nm (a+(wr x.1).length+x.2.length) l
theorem af6(r:List UInt8):∀g∈iU,∀(f a:Nat) (out:List bP),(g++r).length<=f->ig f (g++r) a out=ig r.length r (a+g.length) out:=by
 intro g aB f a out aM
 have aG:∀(b:UInt8) (u:List UInt8) (f a:Nat),ma b=true->(b::u).length<=f->ig f (b::u) a out=ig u.length u (a+1) out:=λb u f a ag aM=>DV (TD u ag) f a out aM
 simp only[iU,List.mem_cons,List.not_mem_nil,or_false] at aB
 rcases aB with rfl|rfl|rfl|rfl
 · exact aG 32 r f a (by decide) aM
 · exact aG 10 r f a (by decide) aM
 · exact(aG 9 (32::r) f a (by decide) aM).trans (aG 32 r _ _ (by decide) (Nat.le_refl _))
 · have he:el (35::32::41::32::123::10::r)=.skip 5:=rfl
   exact(aG 32 (35::32::41::32::123::10::r) f a (by decide) aM).trans ((DV he _ _ _ (Nat.le_refl _)).trans (aG 10 r _ _ (by decide) (Nat.le_refl _)))
theorem af7:∀g∈iU,∃c r,g=c::r/\c∈zk:=by
 intro g aB
 simp only[iU,List.mem_cons,List.not_mem_nil,or_false] at aB
 rcases aB with rfl|rfl|rfl|rfl<;>exact⟨_,_,rfl,by decide⟩
theorem TI:∀(l:List (bP×bJ)) (f a:Nat) (out:List bP),(∀x∈l,Canon x.1/\x.2∈iU)->(hY l).length<=f->ig f (hY l) a out=.ok (out++nm a l++[⟨0,[],0,a+(hY l).length⟩])
 |[],f,a,out,_,_=>by
  show ig f [] a out=_
  cases f<;>simp[ig,nm,hY]
 |x::l,f,a,out,h,aM=>by
  obtain⟨ak,aB⟩:=h x (by simp)
  have e:hY (x::l)=wr x.1++(x.2++hY l):=by simp[hY]
  obtain⟨c,r,J,ae⟩:=af7 x.2 aB
  have he:=TB ak ae (r++hY l)
  have aE:c::(r++hY l)=x.2++hY l:=by rw[J];rfl
  rw[aE] at he
  rw[e] at aM⊢
  rw[TC he _ _ _ aM,List.drop_left,af6 _ x.2 aB _ _ _ (Nat.le_refl _),TI l _ _ _ (λy bH=>h y (by simp[bH])) (Nat.le_refl _)]
  have br:({x.1 with at':=a}:bP)=⟨x.1.k,x.1.t,x.1.v,a⟩:=rfl
  rw[nm,br]
  simp only[List.append_assoc,List.cons_append,List.nil_append,List.length_append]
  rw[show a+(wr x.1).length+x.2.length+(hY l).length=a+((wr x.1).length+(x.2.length+(hY l).length)) by omega]
theorem HG(h:∀x∈l,Canon x.1/\x.2∈iU):px (hY l)=.ok (nm 0 l++[⟨0,[],0,(hY l).length⟩]):=by
 unfold px
 rw[TI l _ _ _ h (Nat.le_refl _)]
 simp
theorem TJ:∀(l:List (bP×bJ)) (a:Nat),(nm a l).length=l.length
 |[],a=>rfl
 |x::l,a=>by rw[nm,List.length_cons,TJ l,List.length_cons]
def A7(t:bP):Nat×bJ×Nat:=(t.k,t.t,t.v)
theorem af8:∀(l m:List (bP×bJ)) (a b p q:Nat),l.map (·.1)=m.map (·.1)->Td (nm a l++[⟨0,[],0,p⟩]) (nm b m++[⟨0,[],0,q⟩]):=by
 intro l m a b p q h
 have key:∀(l m:List (bP×bJ)) (a b:Nat),l.map (·.1)=m.map (·.1)->∀i,A7 (bR (nm a l++[⟨0,[],0,p⟩]) i)=A7 (bR (nm b m++[⟨0,[],0,q⟩]) i):=by
  intro l
  induction l with
  |nil=>
   intro m a b h i
   cases m with
   |cons y m=>cases h
   |nil=>cases i with
    |zero=>rfl
    |succ i=>rfl
  |cons x l bM=>
   intro m a b h i
   cases m with
   |nil=>cases h
   |cons y m=>
    simp only[List.map_cons,List.cons.injEq] at h
    cases i with
    |zero=>simp only[bR,nm,List.cons_append,List.getD_cons_zero,A7,h.1]
    |succ i=>
     simp only[bR,nm,List.cons_append,List.getD_cons_succ]
     exact bM m _ _ h.2 i
 have k:=key l m a b h
 have aA:l.length=m.length:=by have:=congrArg List.length h;simpa using this
 exact⟨by simp[TJ,aA],λi=>congrArg (·.1) (k i),λi=>congrArg (λx=>x.2.1) (k i),λi=>congrArg (λx=>x.2.2) (k i)⟩
theorem af9{m:List (bP×bJ)}(aA:∀x∈l,Canon x.1/\x.2∈iU)(hm:∀x∈m,Canon x.1/\x.2∈iU)(h:l.map (·.1)=m.map (·.1)):(∃e b0,ky (hY l)=.error e/\ky (hY m)=.error b0)\/∃d e,ky (hY l)=.ok d/\ky (hY m)=.ok e/\d.map iL=e.map iL:=by
 unfold ky
 rw[HG aA,HG hm]
 have z:=af8 l m 0 0 (hY l).length (hY m).length h
 simp only
 rw[z.len]
 exact Tp z _ 0 [] [] rfl
def Mv:bJ:=[105,102,32]
def Mw:bJ:=[32,116,104,101,110,32]
def Mx:bJ:=[32,101,108,115,101,32]
def My:bJ:=[117,110,114,111,108,108,40]
def TK(x:bJ):Bool:=x.any λb=>b==34||b==92||b==10
def HH(x:bJ):bJ:=if TK x then[63] else[34]++x++[34]
mutual
def iz:bX->bJ
 |.mk k _ n x l r c _ cZ _ es=>
  if k=1 then[UInt8.ofNat (48+n %10)]
  else if k=3 then qE
  else if k=4 then qF
  else if k=5 then mN
  else if k=2 then HH x
  else if k=6 then x
  else if k=7 then[40]++gC l++[41,46]++x
  else if k=14 then x++[32,40]++gC l++[41]
  else if k=13 then[40]++gC l++[41,32]++x++[32,40]++gC r++[41]
  else if k=11 then Mv++gC l++Mw++gC r++Mx++gC c
  else if k=17 then My++gC l++[41]
  else if k=9 then[40]++gC l++[41,40]++hN k cZ es 0 []++[41]
  else if k=8 then[123]++hN k cZ es 0 []++[125]
  else[63]
def hN(k:Nat)(cZ:List bJ):List bX->Nat->bJ->bJ
 |[],_,s=>s
 |e::es,i,s=>hN k cZ es (i+1) ((if k=8 then(if 0<i then s++[44,32] else s)++cZ.getD i []++[32,61,32] else(if 0<i then s++[44,32] else s))++iz e)
def gC:Option bX->bJ
 |none=>[63]
 |some e=>iz e
end
mutual
theorem TL:∀e:bX,iz (gp e)=iz e
 |.mk k _ n x l r c _ cZ _ es=>by
  simp only[gp,iz,DW l,DW r,DW c,TM k cZ es 0 []]
theorem TM(k:Nat)(cZ:List bJ):∀(es:List bX) (i:Nat) (s:bJ),hN k cZ (oO es) i s=hN k cZ es i s
 |[],_,_=>rfl
 |e::es,i,s=>by
  simp only[oO,hN,TL e,TM k cZ es]
theorem DW:∀e:Option bX,gC (lu e)=gC e
 |none=>rfl
 |some e=>TL e
end
theorem af_{d e:Option bX}(h:lu d=lu e):gC d=gC e:=by rw[<-DW d,h,DW]
section
variable (N S:bJ->Prop)
def qL(k:Nat)(x:bJ)(l r c:Option bX)(cZ:List bJ)(es:List bX):Prop:=
 k=1\/(k=2/\S x)\/k=3\/k=4\/k=5\/(k=6/\N x)\/(k=7/\N x/\l.isSome)\/(k=8/\cZ.length=es.length/\∀n∈cZ,N n)\/(k=9/\l.isSome)\/(k=11/\l.isSome/\r.isSome/\c.isSome)\/(k=13/\(∃i,i<5/\x∈n0 i)/\l.isSome/\r.isSome)\/(k=14/\x∈[Mf,[45]]/\l.isSome)\/(k=17/\l.isSome)\/((k=10\/k=12\/k=15\/k=16)/\es=[])
mutual
def jl:bX->Prop
 |.mk k _ _ x l r c _ cZ _ es=>qL N S k x l r c cZ es/\qM l/\qM r/\qM c/\xh es
def xh:List bX->Prop
 |[]=>True
 |e::es=>jl e/\xh es
def qM:Option bX->Prop
 |none=>True
 |some e=>jl e
end
theorem xh.of:∀{l:List bX},(∀e∈l,jl N S e)->xh N S l
 |[],_=>trivial
 |e::l,h=>⟨h e (by simp),xh.of λx ab=>h x (by simp[ab])⟩
def jW{α:Type}(P:α->Prop)(one:Nat->bw α):Prop:=∀a x b,one a=.ok (x,b)->P x
variable {all:List bP} {N S}
theorem aga{k:Nat}{t:bP}(h:nX all k a=.ok (t,b)):t=bR all a/\(bR all a).k=k:=by
 unfold nX at h
 split at h
 · rename_i J;cases h;exact⟨rfl,J⟩
 · cases h
theorem TN(eo:∀a,(bR all a).k=1->N (bR all a).t):jW N (ij all):=λa x b h=>by
 unfold ij at h
 split at h
 · rename_i t bd J
   obtain⟨rfl,ae⟩:=aga J
   cases h;exact eo _ ae
 · cases h
theorem TO{α:Type}{P:α->Prop}{fin:bJ}{one:Nat->bw α}(hm:jW P one):∀(f a:Nat) (out l:List α) (b:Nat),oM all fin one f a out=.ok (l,b)->(∀x∈out,P x)->∀x∈l,P x
 |0,a,out,l,b,h,_=>by cases h
 |f+1,a,out,l,b,h,bg=>by
  unfold oM at h
  split at h
  · cases h
  · rename_i x bd J
    have aO:=hm _ _ _ J
    have tT:∀y∈out++[x],P y:=λy bH=>by
     rcases List.mem_append.1 bH with bH|bH
     · exact bg y bH
     · rw[List.mem_singleton.1 bH];exact aO
    split at h
    · exact TO hm f (bd+1) _ _ _ h tT
    · split at h
      · cases h
      · cases h;exact tT
theorem TP{α:Type}{P:α->Prop}{fin:bJ}{one:Nat->bw α}(hm:jW P one):jW (λl=>∀x∈l,P x) (j_ all fin one):=λa x b h=>by
 unfold j_ at h
 split at h
 · split at h
   · cases h
   · cases h;intro x ab;cases ab
 · exact TO hm _ _ _ _ _ h (λx ab=>by cases ab)
theorem TQ(bO:jW (jl N S) E):jW (jl N S) (nZ all E):=λa x b h=>by
 unfold nZ at h
 split at h
 · cases h
 · split at h
   · cases h
   · rename_i y c ae
     have aZ:=bO _ _ _ ae
     split at h
     · cases h
     · cases h;exact aZ
theorem agb(eo:∀a,(bR all a).k=1->N (bR all a).t)(bO:jW (jl N S) E):jW (λx=>N x.1/\jl N S x.2) (lR all E):=λa x b h=>by
 unfold lR at h
 split at h
 · cases h
 · rename_i y bd J
   have aO:=TN eo _ _ _ J
   split at h
   · cases h
   · split at h
     · cases h
     · rename_i t d aq
       have:=bO _ _ _ aq
       cases h;exact⟨aO,this⟩
theorem agc(eo:∀a,(bR all a).k=1->N (bR all a).t)(cS:∀a,(bR all a).k=4->S (bR all a).t){e:bX}(h:oN all a=some e):jl N S e:=by
 unfold oN at h
 simp only at h
 split at h
 · cases h;exact⟨.inl rfl,trivial,trivial,trivial,trivial⟩
 split at h
 · rename_i aQ
   cases h;exact⟨.inr (.inl ⟨rfl,cS _ aQ⟩),trivial,trivial,trivial,trivial⟩
 split at h
 · rename_i J
   cases h;exact⟨.inr (.inr (.inr (.inr (.inr (.inl ⟨rfl,eo _ J⟩))))),trivial,trivial,trivial,trivial⟩
 split at h
 · rename_i ai
   cases h
   refine⟨?_,trivial,trivial,trivial,trivial⟩
   unfold dV at ai
   have hm:(bR all a).t∈[qE,qF,mN]:=by
    have:=(Bool.and_eq_true_iff.1 ai).2
    simpa using this
   simp only[List.mem_cons,List.not_mem_nil,or_false] at hm
   rcases hm with e|e|e<;>rw[e]
   · exact .inr (.inr (.inl rfl))
   · exact .inr (.inr (.inr (.inl rfl)))
   · exact .inr (.inr (.inr (.inr (.inl rfl))))
 · cases h
theorem TR{l:List bJ}(h:dV all l a=true):(bR all a).t∈l:=by
 unfold dV at h
 have:=(Bool.and_eq_true_iff.1 h).2
 simpa using this
theorem agd(eo:∀a,(bR all a).k=1->N (bR all a).t)(cS:∀a,(bR all a).k=4->S (bR all a).t)(bO:jW (jl N S) E):jW (jl N S) (pB all E T):=λa x b h=>by
 unfold pB at h
 split at h
 · rename_i e he
   cases h;exact agc eo cS he
 split at h
 · split at h
   · cases h
   · rename_i l bd J
     have k:=TP (agb eo bO) _ _ _ J
     cases h
     refine⟨.inr (.inr (.inr (.inr (.inr (.inr (.inr (.inl ⟨rfl,by simp,λn aT=>?_⟩))))))),trivial,trivial,trivial,xh.of _ _ λe he=>?_⟩
     · obtain⟨y,bH,rfl⟩:=List.mem_map.1 aT
       exact(k y bH).1
     · obtain⟨y,bH,rfl⟩:=List.mem_map.1 he
       exact(k y bH).2
 split at h
 · split at h
   · cases h
   · rename_i y bd J
     have aO:=bO _ _ _ J
     split at h
     · cases h;exact aO
     split at h
     · split at h
       · cases h
       · split at h
         · cases h
         · cases h;exact⟨by simp[qL],aO,trivial,trivial,trivial⟩
     · cases h
 split at h
 · split at h
   · cases h
   · split at h
     · cases h
     · rename_i y c ae
       have k:=TQ bO _ _ _ ae
       cases h;exact⟨by simp[qL],k,trivial,trivial,trivial⟩
 split at h
 · split at h
   · cases h
   · rename_i y c ae
     have k:=TQ bO _ _ _ ae
     cases h;exact⟨by simp[qL],k,trivial,trivial,trivial⟩
 · cases h
theorem Mz(eo:∀a,(bR all a).k=1->N (bR all a).t){E:Nat->bw bX}(bO:jW (jl N S) E):∀(f a:Nat) (l x:bX) (b:Nat),pC all E f a l=.ok (x,b)->jl N S l->jl N S x
 |0,a,l,x,b,h,aA=>by cases h;exact aA
 |f+1,a,l,x,b,h,aA=>by
  unfold pC at h
  split at h
  · split at h
    · cases h
    · rename_i y bd J
      have aO:=TN eo _ _ _ J
      exact Mz eo bO f _ _ _ _ h ⟨by simp[qL,aO],aA,trivial,trivial,trivial⟩
  split at h
  · split at h
    · cases h
    · rename_i y bd J
      have aO:=TP bO _ _ _ J
      exact Mz eo bO f _ _ _ _ h ⟨by simp[qL],aA,trivial,trivial,xh.of _ _ aO⟩
  · cases h;exact aA
theorem age(eo:∀a,(bR all a).k=1->N (bR all a).t)(cS:∀a,(bR all a).k=4->S (bR all a).t)(bO:jW (jl N S) E):jW (jl N S) (qH all E T):=λa x b h=>by
 unfold qH at h
 split at h
 · cases h
 · rename_i y bd J
   exact Mz eo bO _ _ _ _ _ h (agd eo cS bO _ _ _ J)
theorem TS(eo:∀a,(bR all a).k=1->N (bR all a).t)(cS:∀a,(bR all a).k=4->S (bR all a).t)(bO:jW (jl N S) E)(fY:jW (jl N S) U):jW (jl N S) (pD all E T U):=λa x b h=>by
 unfold pD at h
 split at h
 · rename_i hi
   split at h
   · cases h
   · rename_i y bd J
     have k:=fY _ _ _ J
     have:=TR hi
     cases h
     exact⟨by simp only[qL];simp[this],k,trivial,trivial,trivial⟩
 · exact age eo cS bO _ _ _ h
theorem TT{E:Nat->bw bX}(bO:jW (jl N S) E){k:Nat}(ai:k<5):∀(f a:Nat) (l x:bX) (b:Nat),qI all E k f a l=.ok (x,b)->jl N S l->jl N S x
 |0,a,l,x,b,h,aA=>by cases h;exact aA
 |f+1,a,l,x,b,h,aA=>by
  unfold qI at h
  split at h
  · rename_i hi
    have hm:=TR hi
    split at h
    · cases h
    · rename_i y bd J
      have aO:=bO _ _ _ J
      exact TT bO ai f _ _ _ _ h ⟨.inr (.inr (.inr (.inr (.inr (.inr (.inr (.inr (.inr (.inr (.inl ⟨rfl,⟨k,ai,hm⟩,rfl,rfl⟩)))))))))),aA,aO,trivial,trivial⟩
  · cases h;exact aA
theorem MA{U:Nat->bw bX}(fY:jW (jl N S) U):∀i,jW (jl N S) (k9 all U i)
 |0=>fY
 |i+1=>λa x b h=>by
  unfold k9 at h
  split at h
  · cases h
  · rename_i y bd J
    exact TT (MA fY i) (by omega) _ _ _ _ _ h (MA fY i _ _ _ J)
theorem TU(eo:∀a,(bR all a).k=1->N (bR all a).t)(bO:jW (jl N S) E)(fY:jW (jl N S) U):jW (jl N S) (mf all E T U):=λa x b h=>by
 unfold mf at h
 split at h
 · split at h
   · cases h
   · rename_i bb bd J
     split at h
     · cases h
     · split at h
       · cases h
       · rename_i cw b2 ae
         split at h
         · cases h
         · split at h
           · cases h
           · rename_i fN dd aq
             have aO:=bO _ _ _ J
             have aZ:=bO _ _ _ ae
             have bC:=bO _ _ _ aq
             cases h
             exact⟨by simp[qL],aO,aZ,bC,trivial⟩
 split at h
 · split at h
   · cases h
   · split at h
     · cases h
     · split at h
       · cases h
       · split at h
         · cases h
         · rename_i bb bd J
           split at h
           · cases h
           · split at h
             · cases h
             · rename_i cw b2 ae
               have aO:=bO _ _ _ J
               have aZ:=bO _ _ _ ae
               cases h
               exact⟨by simp[qL],aO,aZ,trivial,trivial⟩
 split at h
 · split at h
   · cases h
   · split at h
     · cases h
     · split at h
       · cases h
       · rename_i bb bd J
         have aO:=bO _ _ _ J
         cases h
         exact⟨by simp[qL],aO,trivial,trivial,trivial⟩
 · exact MA fY _ _ _ _ h
theorem TV(eo:∀a,(bR all a).k=1->N (bR all a).t)(cS:∀a,(bR all a).k=4->S (bR all a).t):∀j,jW (jl N S) (nj all j).1/\jW (jl N S) (nj all j).2
 |0=>⟨(λa x b h=>by cases h),TS (E:=λa=>.error (11,(bR all a).at')) (U:=λa=>.error (11,(bR all a).at')) (T:=jk all 0) eo cS (λa x b h=>by cases h) (λa x b h=>by cases h)⟩
 |j+1=>by
  obtain⟨J,ae⟩:=TV eo cS j
  exact⟨TU eo J ae,TS eo cS (TU eo J ae) ae⟩
theorem TW(eo:∀a,(bR all a).k=1->N (bR all a).t)(cS:∀a,(bR all a).k=4->S (bR all a).t)(d:gI):jW (λd=>qM N S d.e) (pE all d):=λa x b h=>by
 unfold pE at h
 split at h
 · cases h
 · split at h
   · cases h
   · split at h
     · cases h
     · rename_i y c J
       have k:=(TV eo cS 40).1 _ _ _ J
       cases h;exact k
theorem agf(eo:∀a,(bR all a).k=1->N (bR all a).t)(cS:∀a,(bR all a).k=4->S (bR all a).t):jW (λd=>qM N S d.e) (pF all):=λa x b h=>by
 unfold pF at h
 split at h
 · split at h
   · cases h
   · split at h
     · cases h
     · split at h
       · cases h
       · cases h;exact trivial
 split at h
 · split at h
   · cases h
   · split at h
     · cases h
     · split at h
       · cases h
       · cases h;exact trivial
 split at h
 · split at h
   · cases h
   · exact TW eo cS _ _ _ _ h
 split at h
 · split at h
   · cases h
   · split at h
     · cases h
     · exact TW eo cS _ _ _ _ h
 · cases h
theorem TX(eo:∀a,(bR all a).k=1->N (bR all a).t)(cS:∀a,(bR all a).k=4->S (bR all a).t):∀(f a:Nat) (out l:List gI),n1 all f a out=.ok l->(∀d∈out,qM N S d.e)->∀d∈l,qM N S d.e
 |0,a,out,l,h,bg=>by cases h;exact bg
 |f+1,a,out,l,h,bg=>by
  unfold n1 at h
  split at h
  · cases h;exact bg
  · split at h
    · cases h
    · rename_i d b J
      have k:=agf eo cS _ _ _ J
      exact TX eo cS f b _ l h λy bH=>by
       rcases List.mem_append.1 bH with bH|bH
       · exact bg y bH
       · rw[List.mem_singleton.1 bH];exact k
end
section
variable {all:List bP}
def W(all:List bP):Nat->Nat
 |0=>0
 |i+1=>W all i+(bR all i).t.length+30
theorem DX(h:a<=b):W all a<=W all b:=by
 induction b with
 |zero=>rw[Nat.le_zero.1 h];exact Nat.le_refl _
 |succ b bM=>
  rcases Nat.lt_or_ge a (b+1) with J|J
  · have:=bM (by omega)
    rw[W];omega
  · rw[show a=b+1 by omega];exact Nat.le_refl _
theorem qN(a:Nat):W all (a+1)=W all a+(bR all a).t.length+30:=rfl
theorem sI(h:e_ all s a=.ok b):W all a+30<=W all b:=by
 have:=lS h
 rw[this,qN];omega
theorem MB{x:bJ}(h:ij all a=.ok (x,b)):x.length+W all a+30<=W all b:=by
 have e:x=(bR all a).t/\b=a+1:=by
  unfold ij nX at h
  split at h
  · rename_i t c J
    split at J
    · cases J;cases h;exact⟨rfl,rfl⟩
    · cases J
  · cases h
 rw[e.1,e.2,qN];omega
def k_{α:Type}(all:List bP)(V:α->Nat)(one:Nat->bw α):Prop:=∀a x b,one a=.ok (x,b)->V x+W all a<=W all b
theorem TY{α:Type}{V:α->Nat}{fin:bJ}{one:Nat->bw α}(hm:k_ all V one):∀(f a:Nat) (out l:List α) (b:Nat),oM all fin one f a out=.ok (l,b)->(l.map λx=>V x+2).sum+W all a<=W all b+(out.map λx=>V x+2).sum
 |0,a,out,l,b,h=>by cases h
 |f+1,a,out,l,b,h=>by
  unfold oM at h
  split at h
  · cases h
  · rename_i x bd J
    have aO:=hm _ _ _ J
    split at h
    · have aZ:=TY hm f (bd+1) _ _ _ h
      have bC:=qN (all:=all) bd
      simp only[List.map_append,List.map_cons,List.map_nil,List.sum_append,List.sum_cons,List.sum_nil] at aZ
      omega
    · split at h
      · cases h
      · rename_i c ae
        have aZ:=sI ae
        cases h
        simp only[List.map_append,List.map_cons,List.map_nil,List.sum_append,List.sum_cons,List.sum_nil]
        omega
theorem TZ{α:Type}{V:α->Nat}{fin:bJ}{one:Nat->bw α}(hm:k_ all V one):k_ all (λl=>(l.map λx=>V x+2).sum) (j_ all fin one):=λa x b h=>by
 unfold j_ at h
 split at h
 · split at h
   · cases h
   · rename_i c ae
     have aZ:=sI ae
     cases h
     simp;omega
 · have:=TY hm _ _ _ _ _ h
   simpa using this
abbrev eN(e:bX):Nat:=(iz e).length
theorem T0(bO:k_ all eN E){x:bX}(h:nZ all E a=.ok (x,b)):eN x+W all a+60<=W all b:=by
 unfold nZ at h
 split at h
 · cases h
 · rename_i bd J
   have aO:=sI J
   split at h
   · cases h
   · rename_i y c ae
     have aZ:=bO _ _ _ ae
     split at h
     · cases h
     · rename_i d aq
       have bC:=sI aq
       cases h;omega
theorem agh(bO:k_ all eN E):k_ all (λx=>x.1.length+eN x.2+5) (lR all E):=λa x b h=>by
 unfold lR at h
 split at h
 · cases h
 · rename_i y bd J
   have aO:=MB J
   split at h
   · cases h
   · rename_i c ae
     have aZ:=sI ae
     split at h
     · cases h
     · rename_i t d aq
       have bC:=bO _ _ _ aq
       cases h
       simp only;omega
theorem agi(x:bJ):(HH x).length<=x.length+2:=by
 unfold HH
 split<;>simp<;>omega
theorem agj{e:bX}(h:oN all a=some e):eN e+W all a<=W all (a+1):=by
 rw[qN]
 unfold oN at h
 simp only at h
 split at h
 · cases h;simp[eN,iz,leaf];omega
 split at h
 · cases h
   have:=agi (bR all a).t
   simp only[eN,iz,leaf]
   rw[if_neg (by decide),if_neg (by decide),if_neg (by decide),if_neg (by decide),if_pos trivial]
   omega
 split at h
 · cases h;simp[eN,iz,leaf];omega
 split at h
 · cases h
   have ai:qG (bR all a).t=0\/qG (bR all a).t=3\/qG (bR all a).t=4\/qG (bR all a).t=5:=by
    unfold qG
    split
    · simp
    split
    · simp
    split<;>simp
   rcases ai with e|e|e|e<;>rw[e]<;>simp[eN,iz,leaf,qE,qF,mN]<;>omega
 · cases h
theorem T1:∀(es:List bX) (i:Nat) (s:bJ) (cZ:List bJ),(hN 9 cZ es i s).length<=s.length+(es.map λx=>eN x+2).sum
 |[],i,s,cZ=>by simp[hN]
 |e::es,i,s,cZ=>by
  rw[hN,if_neg (show¬(9=8) by decide)]
  have:=T1 es (i+1) ((if 0<i then s++[44,32] else s)++iz e) cZ
  refine Nat.le_trans this ?_
  rw[List.length_append,List.map_cons,List.sum_cons]
  split<;>simp[eN]<;>omega
theorem T2:∀(l:List (bJ×bX)) (p:List bJ) (s:bJ),(hN 8 (p++l.map (·.1)) (l.map (·.2)) p.length s).length<=s.length+(l.map λx=>x.1.length+eN x.2+5+2).sum
 |[],p,s=>by simp[hN]
 |x::l,p,s=>by
  rw[List.map_cons,List.map_cons,hN,if_pos rfl]
  have aB:(p++x.1::l.map (·.1)).getD p.length []=x.1:=by simp
  rw[aB]
  have e:p++x.1::l.map (·.1)=(p++[x.1])++l.map (·.1):=by simp
  have:=T2 l (p++[x.1]) ((if 0<p.length then s++[44,32] else s)++x.1++[32,61,32]++iz x.2)
  rw[<-e,show(p++[x.1]).length=p.length+1 by simp] at this
  refine Nat.le_trans this ?_
  rw[List.map_cons,List.sum_cons]
  simp only[List.length_append]
  split<;>simp[eN]<;>omega
theorem agk(bO:k_ all eN E)(nn:ev E)(oP:ev T):k_ all eN (pB all E T):=λa x b h=>by
 unfold pB at h
 split at h
 · rename_i e he
   cases h;exact agj he
 split at h
 · split at h
   · cases h
   · rename_i l bd J
     have aO:=TZ (agh bO) _ _ _ J
     simp only at aO
     have aZ:=qN (all:=all) a
     cases h
     have bC:=T2 l [] []
     simp only[List.nil_append,List.length_nil] at bC
     have:eN (.mk 8 (bR all a).at' 0 [] none none none none (l.map (·.1)) [] (l.map (·.2)))=(hN 8 (l.map (·.1)) (l.map (·.2)) 0 []).length+2:=by
      simp[eN,iz]
     rw[this]
     omega
 split at h
 · have nF:=qN (all:=all) a
   split at h
   · cases h
   · rename_i y bd J
     have aO:=bO _ _ _ J
     have aZ:=qN (all:=all) bd
     split at h
     · cases h;omega
     split at h
     · split at h
       · cases h
       · rename_i t c ae
         have bC:=DX (all:=all) (oP _ _ _ ae)
         split at h
         · cases h
         · rename_i d aq
           have cX:=sI aq
           cases h
           simp only[eN,iz] at aO⊢
           simp;omega
     · cases h
 split at h
 · have nF:=qN (all:=all) a
   split at h
   · cases h
   · rename_i t bd J
     have aO:=DX (all:=all) (Mg _ _ _ J)
     split at h
     · cases h
     · rename_i y c ae
       have aZ:=T0 bO ae
       cases h
       simp only[eN,iz] at aZ⊢
       simp;omega
 split at h
 · have nF:=qN (all:=all) a
   split at h
   · cases h
   · rename_i y c ae
     have aZ:=T0 bO ae
     cases h
     simp only[eN,iz,gC] at aZ⊢
     simp[My];omega
 · cases h
theorem MC{E:Nat->bw bX}(bO:k_ all eN E)(nn:ev E):∀(f a:Nat) (l x:bX) (b:Nat),pC all E f a l=.ok (x,b)->eN x+W all a<=W all b+eN l
 |0,a,l,x,b,h=>by cases h;omega
 |f+1,a,l,x,b,h=>by
  have nF:=qN (all:=all) a
  unfold pC at h
  split at h
  · split at h
    · cases h
    · rename_i y bd J
      have aO:=MB J
      have aZ:=MC bO nn f _ _ _ _ h
      have:eN (.mk 7 (bR all a).at' 0 y (some l) none none none [] [] [])=eN l+y.length+3:=by simp[eN,iz,gC];omega
      omega
  split at h
  · split at h
    · cases h
    · rename_i y bd J
      have aO:=TZ bO _ _ _ J
      simp only at aO
      have aZ:=MC bO nn f _ _ _ _ h
      have bC:=T1 y 0 [] []
      have:eN (.mk 9 (bR all a).at' 0 [] (some l) none none none [] [] y)=eN l+(hN 9 [] y 0 []).length+4:=by simp[eN,iz,gC];omega
      simp only[List.length_nil] at bC
      omega
  · cases h;omega
theorem agl(bO:k_ all eN E)(nn:ev E)(oP:ev T):k_ all eN (qH all E T):=λa x b h=>by
 unfold qH at h
 split at h
 · cases h
 · rename_i y bd J
   have aO:=agk bO nn oP _ _ _ J
   have:=MC bO nn _ _ _ _ _ h
   omega
theorem T3(bO:k_ all eN E)(fY:k_ all eN U)(nn:ev E)(oP:ev T):k_ all eN (pD all E T U):=λa x b h=>by
 unfold pD at h
 split at h
 · split at h
   · cases h
   · rename_i y bd J
     have nF:=qN (all:=all) a
     have aO:=fY _ _ _ J
     cases h
     have:eN (.mk 14 (bR all a).at' 0 (bR all a).t (some y) none none none [] [] [])=eN y+(bR all a).t.length+3:=by simp[eN,iz,gC];omega
     omega
 · exact agl bO nn oP _ _ _ h
theorem T4{E:Nat->bw bX}(bO:k_ all eN E)(k:Nat):∀(f a:Nat) (l x:bX) (b:Nat),qI all E k f a l=.ok (x,b)->eN x+W all a<=W all b+eN l
 |0,a,l,x,b,h=>by cases h;omega
 |f+1,a,l,x,b,h=>by
  unfold qI at h
  split at h
  · split at h
    · cases h
    · rename_i y bd J
      have nF:=qN (all:=all) a
      have aO:=bO _ _ _ J
      have aZ:=T4 bO k f _ _ _ _ h
      have:eN (.mk 13 (bR all a).at' 0 (bR all a).t (some l) (some y) none none [] [] [])=eN l+eN y+(bR all a).t.length+6:=by simp[eN,iz,gC];omega
      omega
  · cases h;omega
theorem MD{U:Nat->bw bX}(fY:k_ all eN U):∀i,k_ all eN (k9 all U i)
 |0=>fY
 |i+1=>λa x b h=>by
  unfold k9 at h
  split at h
  · cases h
  · rename_i y bd J
    have aO:=MD fY i _ _ _ J
    have:=T4 (MD fY i) _ _ _ _ _ _ h
    omega
theorem agm(bO:k_ all eN E)(fY:k_ all eN U)(nn:ev E)(oP:ev T):k_ all eN (mf all E T U):=λa x b h=>by
 have nF:=qN (all:=all) a
 unfold mf at h
 split at h
 · split at h
   · cases h
   · rename_i bb bd J
     have aO:=bO _ _ _ J
     split at h
     · cases h
     · rename_i b2 ae
       have aZ:=sI ae
       split at h
       · cases h
       · rename_i cw dd aq
         have bC:=bO _ _ _ aq
         split at h
         · cases h
         · rename_i gm aQ
           have cX:=sI aQ
           split at h
           · cases h
           · rename_i fN jR bj
             have gi:=bO _ _ _ bj
             cases h
             have:eN (.mk 11 (bR all a).at' 0 [] (some bb) (some cw) (some fN) none [] [] [])=eN bb+eN cw+eN fN+15:=by simp[eN,iz,gC,Mv,Mw,Mx];omega
             omega
 split at h
 · split at h
   · cases h
   · rename_i n bd J
     have aO:=MB J
     split at h
     · cases h
     · rename_i t b2 ae
       have aZ:=DX (all:=all) (Hz oP _ _ _ ae)
       split at h
       · cases h
       · rename_i dd aq
         have bC:=sI aq
         split at h
         · cases h
         · rename_i bb gm aQ
           have cX:=bO _ _ _ aQ
           split at h
           · cases h
           · rename_i jR bj
             have gi:=sI bj
             split at h
             · cases h
             · rename_i cw nP cW
               have fg:=bO _ _ _ cW
               cases h
               simp[eN,iz] at cX fg⊢
               omega
 split at h
 · split at h
   · cases h
   · rename_i l bd J
     have aO:=DX (all:=all) (Mi oP _ _ _ J)
     split at h
     · cases h
     · rename_i b2 ae
       have aZ:=sI ae
       split at h
       · cases h
       · rename_i bb dd aq
         have bC:=bO _ _ _ aq
         cases h
         simp[eN,iz] at bC⊢
         omega
 · exact MD fY _ _ _ _ h
theorem T5:∀j,k_ all eN (nj all j).1/\k_ all eN (nj all j).2
 |0=>⟨(λa x b h=>by cases h),T3 (E:=λa=>.error (11,(bR all a).at')) (U:=λa=>.error (11,(bR all a).at')) (T:=jk all 0) (λa x b h=>by cases h) (λa x b h=>by cases h) (λa x b h=>by cases h) (nk 0)⟩
 |j+1=>by
  obtain⟨J,ae⟩:=T5 j
  have cR:=zi (all:=all) j
  have ag:=agm (T:=jk all j) J ae cR.1 (nk j)
  exact⟨ag,T3 ag ae (zi (all:=all) (j+1)).1 (nk (j+1))⟩
theorem agn{d:gI}(h:pF all a=.ok (d,b)):(gC d.e).length<=W all b+1:=by
 have T6:∀{D x:gI} {a b:Nat},pE all D a=.ok (x,b)->(gC x.e).length<=W all b+1:=λ{D x a b} h=>by
  unfold pE at h
  split at h
  · cases h
  · split at h
    · cases h
    · split at h
      · cases h
      · rename_i y c J
        have k:=(T5 40).1 _ _ _ J
        cases h
        simp only[gC]
        simp only[eN] at k
        omega
 unfold pF at h
 split at h
 · split at h
   · cases h
   · split at h
     · cases h
     · split at h
       · cases h
       · cases h;simp[gC]
 split at h
 · split at h
   · cases h
   · split at h
     · cases h
     · split at h
       · cases h
       · cases h;simp[gC]
 split at h
 · split at h
   · cases h
   · exact T6 h
 split at h
 · split at h
   · cases h
   · split at h
     · cases h
     · exact T6 h
 · cases h
end
theorem T7:∀(l p:List bP),W (p++l) (p.length+l.length)=W (p++l) p.length+(l.map λt=>t.t.length+30).sum
 |[],p=>by simp
 |x::l,p=>by
  have e:p++x::l=(p++[x])++l:=by simp
  have:=T7 l (p++[x])
  rw[<-e] at this
  have aE:(p++[x]).length=p.length+1:=by simp
  rw[aE] at this
  rw[show p.length+(x::l).length=p.length+1+l.length by simp;omega,this,W]
  have br:bR (p++x::l) p.length=x:=by simp[bR]
  rw[br]
  simp;omega
theorem ago{t:bP}(h:Canon t):t.t.length<=(wr t).length:=by
 rcases h with⟨b,l,J,ae,aq,aQ,bj,cW⟩|⟨J,ae,aq⟩|⟨J,ae,aq⟩|⟨J,ae,aq⟩
 · obtain⟨k,w,v,p⟩:=t
   simp only at bj⊢
   rw[HE (by rw[bj];split<;>decide) (by rw[bj];split<;>decide)]
   exact Nat.le_refl _
 · rw[ae];exact Nat.zero_le _
 · have:wr t=34::iM t.t++[34]:=by unfold wr;rw[if_neg (by omega),if_pos J]
   rw[this]
   have:∀u:List UInt8,u.length<=(iM u).length:=λu=>by
    induction u with
    |nil=>exact Nat.zero_le _
    |cons b u bM=>
     show(b::u).length<=(n2 b++iM u).length
     rw[List.length_append,List.length_cons]
     have:1<=(n2 b).length:=by unfold n2;split<;>(try split)<;>simp
     omega
   have:=this t.t
   simp;omega
 · obtain⟨k,w,v,p⟩:=t
   simp only at J⊢
   rw[HE (by omega) (by omega)]
   exact Nat.le_refl _
theorem agp{all:List bP}(h:px s=.ok all):W all all.length<=32*s.length+30:=by
 obtain⟨out,rfl,t⟩:=Mt h
 have:=T7 (out++[⟨0,[],0,s.length⟩]) []
 simp only[List.nil_append,List.length_nil,Nat.zero_add,W] at this
 rw[this]
 have J:∀l:List bP,(∀x∈l,Canon x)->(l.map λt=>t.t.length+30).sum<=(l.map λt=>(wr t).length).sum+30*l.length:=λl=>by
  induction l with
  |nil=>intro _;simp
  |cons x l bM=>
   intro ab
   have aO:=ago (ab x (by simp))
   have aZ:=bM λy bH=>ab y (by simp[bH])
   simp only[List.map_cons,List.sum_cons,List.length_cons]
   omega
 have ae:=J out λx ab=>by
  obtain⟨_,n,ak⟩:=t.each x ab
  obtain⟨k,w,v,p⟩:=x
  exact af1 ak
 have aq:=t.sum
 have aQ:=t.len
 simp only[List.map_append,List.map_cons,List.map_nil,List.sum_append,List.sum_cons,List.sum_nil,List.length_nil]
 omega
theorem T8{all:List bP}{l:List gI}(h:px s=.ok all)(ah:s.length<=2800)(aA:∀d∈l,(gC d.e).length<=W all all.length+1):∀d∈l,(gC d.e).length<=90000:=λd aH=>by
 have J:=aA d aH
 have ae:=agp h
 omega
def kU(b:UInt8):bJ:=n4.getD (b.toNat %28) []
def zl(b:UInt8):bJ:=iU.getD (b.toNat %4) []
theorem vc(b:UInt8):kU b∈n4:=by
 unfold kU
 have h:b.toNat %28<n4.length:=Nat.mod_lt _ (by decide)
 rw[List.getD_eq_getElem?_getD,List.getElem?_eq_getElem h]
 exact List.getElem_mem h
theorem T9(b:UInt8):zl b∈iU:=by
 unfold zl
 have h:b.toNat %4<iU.length:=Nat.mod_lt _ (by decide)
 rw[List.getD_eq_getElem?_getD,List.getElem?_eq_getElem h]
 exact List.getElem_mem h
def iu:List UInt8->bJ
 |[]=>[32]
 |g::_=>zl g
def sJ(l:List UInt8):bJ:=l.flatMap λb=>kU b++[32]
def rO:List UInt8->List UInt8->bJ
 |[],_=>[]
 |b::l,g=>kU b++iu g++rO l g.tail
def vd(l:List UInt8):List (bP×bJ):=l.map λb=>(qK (kU b),[32])
def rP:List UInt8->List UInt8->List (bP×bJ)
 |[],_=>[]
 |b::l,g=>(qK (kU b),iu g)::rP l g.tail
theorem agq(l:List UInt8):sJ l=hY (vd l):=by
 induction l with
 |nil=>rfl
 |cons b l bM=>
  show kU b++[32]++sJ l=wr (qK (kU b))++[32]++hY (vd l)
  rw[bM,TG _ (vc b)]
theorem T_:∀(l g:List UInt8),rO l g=hY (rP l g)
 |[],_=>rfl
 |b::l,g=>by
  show kU b++iu g++rO l g.tail=wr (qK (kU b))++iu g++hY (rP l g.tail)
  rw[T_ l,TG _ (vc b)]
theorem Ua:∀g:List UInt8,iu g∈iU
 |[]=>by decide
 |g::_=>T9 g
theorem Ub:∀(l g:List UInt8),(vd l).map (·.1)=(rP l g).map (·.1)
 |[],_=>rfl
 |b::l,g=>by
  show qK (kU b)::(vd l).map (·.1)=qK (kU b)::(rP l g.tail).map (·.1)
  rw[Ub l g.tail]
theorem agr(l:List UInt8):(sJ l).length<=5*l.length:=by
 induction l with
 |nil=>exact Nat.le_refl _
 |cons b l bM=>
  have h:∀w∈n4,w.length<=4:=by decide
  have:=h _ (vc b)
  show(kU b++[32]++sJ l).length<=_
  simp;omega
theorem Uc:∀(l g:List UInt8),(rO l g).length<=11*l.length
 |[],_=>Nat.le_refl _
 |b::l,g=>by
  have h:∀w∈n4,w.length<=4:=by decide
  have ae:∀w∈iU,w.length<=7:=by decide
  have aO:=h _ (vc b)
  have aZ:=ae _ (Ua g)
  have bC:=Uc l g.tail
  show(kU b++iu g++rO l g.tail).length<=_
  simp;omega
def pH:List (bP×bJ):=[(⟨2,[108,101,116],0,0⟩,[32]),(⟨1,[121],0,0⟩,[32]),(⟨5,[61],0,0⟩,[32])]
def pI:bJ:=[108,101,116,32,121,32,61,32]
theorem ME:∀x∈pH,Canon x.1/\x.2∈iU:=by
 intro x ab
 simp only[pH,List.mem_cons,List.not_mem_nil,or_false] at ab
 rcases ab with rfl|rfl|rfl
 · exact⟨HF [108,101,116] (by decide),(by decide:([32]:bJ)∈iU)⟩
 · exact⟨TH (w:=[121]) (by decide) (by decide) (by decide),(by decide:([32]:bJ)∈iU)⟩
 · exact⟨HF [61] (by decide),(by decide:([32]:bJ)∈iU)⟩
theorem Ud(l m:List (bP×bJ)):hY (l++m)=hY l++hY m:=by unfold hY;rw[List.flatMap_append]
theorem Ue(l:List UInt8):∀x∈vd l,Canon x.1/\x.2∈iU:=λx ab=>by
 obtain⟨b,_,rfl⟩:=List.mem_map.1 ab
 exact⟨HF _ (vc b),(by decide:([32]:bJ)∈iU)⟩
theorem Uf:∀(l g:List UInt8),∀x∈rP l g,Canon x.1/\x.2∈iU
 |[],_,x,ab=>by cases ab
 |b::l,g,x,ab=>by
  rcases List.mem_cons.1 (show x∈(qK (kU b),iu g)::rP l g.tail from ab) with rfl|ab
  · exact⟨HF _ (vc b),Ua g⟩
  · exact Uf l g.tail x ab
theorem Ug:∀w∈n4,(qK w).k=4->(qK w).t=[115]:=by decide
def sK(t:bP):Prop:=t.k=4->t.t=[115]
theorem Uh:∀(l:List (bP×bJ)) (a:Nat),(∀x∈l,sK x.1)->∀t∈nm a l,sK t
 |[],_,_,t,aI=>by cases aI
 |x::l,a,h,t,aI=>by
  rcases List.mem_cons.1 (show t∈{x.1 with at':=a}::nm _ l from aI) with rfl|aI
  · exact h x (by simp)
  · exact Uh l _ (λy bH=>h y (by simp[bH])) t aI
theorem ags{all:List bP}(h:∀t∈all,sK t)(a:Nat):sK (bR all a):=by
 unfold bR
 rw[List.getD_eq_getElem?_getD]
 cases a_:all[a]? with
 |none=>intro e;cases e
 |some t=>exact h t (List.mem_of_getElem? a_)
abbrev Any(_:bJ):Prop:=True
abbrev DY(x:bJ):Prop:=x=[115]
theorem Ui(aA:∀x∈l,Canon x.1/\x.2∈iU)(J:∀x∈l,sK x.1)(h:ky (hY l)=.ok d):∀x∈d,qM Any DY x.e:=by
 unfold ky at h
 rw[HG aA] at h
 simp only at h
 have bg:∀t∈nm 0 l++[⟨0,[],0,(hY l).length⟩],sK t:=λt aI=>by
  rcases List.mem_append.1 aI with aI|aI
  · exact Uh l 0 J t aI
  · rw[List.mem_singleton.1 aI];intro e;cases e
 exact TX (λ_ _=>trivial) (λa ai=>ags bg a ai) _ _ _ _ h λx ab=>by cases ab
theorem Uj{all:List bP}:∀(f a:Nat) (out l:List gI),n1 all f a out=.ok l->out.length<=l.length
 |0,a,out,l,h=>by cases h;exact Nat.le_refl _
 |f+1,a,out,l,h=>by
  unfold n1 at h
  split at h
  · cases h;exact Nat.le_refl _
  · split at h
    · cases h
    · have:=Uj f _ _ _ h
      simp at this;omega
theorem Uk{all:List bP}:∀(f a:Nat) (out l:List gI),n1 all f a out=.ok l->l.length<=f+out.length
 |0,a,out,l,h=>by cases h;omega
 |f+1,a,out,l,h=>by
  unfold n1 at h
  split at h
  · cases h;omega
  · split at h
    · cases h
    · have:=Uk f _ _ _ h
      simp at this;omega
theorem agt(h:ky s=.ok d):d.length<=s.length+1:=by
 unfold ky at h
 split at h
 · cases h
 · rename_i all aA
   have:=Uk _ _ _ _ h
   obtain⟨out,rfl,t⟩:=Mt aA
   have:=t.len
   simp at*;omega
theorem agu{m:List (bP×bJ)}(aA:∀x∈m,Canon x.1/\x.2∈iU)(h:ky (hY (pH++m))=.ok d):0<d.length:=by
 have hT:∀x∈pH++m,Canon x.1/\x.2∈iU:=λx ab=>by
  rcases List.mem_append.1 ab with ab|ab
  · exact ME x ab
  · exact aA x ab
 unfold ky at h
 rw[HG hT] at h
 simp only at h
 obtain⟨all,a_⟩:∃all,all=nm 0 (pH++m)++[⟨0,[],0,(hY (pH++m)).length⟩]:=⟨_,rfl⟩
 have h0:(bR all 0).k=2:=by rw[a_];rfl
 have aT:all.length=all.length-1+1:=by
  have:0<all.length:=by rw[a_];simp
  omega
 rw[<-a_,aT,n1,if_neg (by rw[h0];decide)] at h
 split at h
 · cases h
 · have:=Uj _ _ _ _ h
   simp at this;omega
theorem Ul:∀x∈pH,sK x.1:=by
 intro x ab
 simp only[pH,List.mem_cons,List.not_mem_nil,or_false] at ab
 rcases ab with rfl|rfl|rfl<;>intro e<;>cases e
theorem agv(l:List UInt8):∀x∈vd l,sK x.1:=λx ab=>by
 obtain⟨b,_,rfl⟩:=List.mem_map.1 ab
 exact Ug _ (vc b)
theorem Um:∀(l g:List UInt8),∀x∈rP l g,sK x.1
 |[],_,x,ab=>by cases ab
 |b::l,g,x,ab=>by
  rcases List.mem_cons.1 (show x∈(qK (kU b),iu g)::rP l g.tail from ab) with rfl|ab
  · exact Ug _ (vc b)
  · exact Um l g.tail x ab
structure Un(one two:bJ)(d e:List gI):Prop where
 dt:ky one=.ok d
 dv:ky two=.ok e
 eq:d.map iL=e.map iL
 al:∀x∈d,qM Any DY x.e
 aw:∀x∈e,qM Any DY x.e
 pos:0<d.length
theorem agw(l g:List UInt8):(∃e b0,ky (pI++sJ l)=.error e/\ky (pI++rO l g)=.error b0)\/∃d e,Un (pI++sJ l) (pI++rO l g) d e:=by
 have aG:pI++sJ l=hY (pH++vd l):=by rw[Ud,agq];rfl
 have aE:pI++rO l g=hY (pH++rP l g):=by rw[Ud,T_];rfl
 have aO:∀x∈pH++vd l,Canon x.1/\x.2∈iU:=λx ab=>by
  rcases List.mem_append.1 ab with ab|ab
  · exact ME x ab
  · exact Ue l x ab
 have aZ:∀x∈pH++rP l g,Canon x.1/\x.2∈iU:=λx ab=>by
  rcases List.mem_append.1 ab with ab|ab
  · exact ME x ab
  · exact Uf l g x ab
 have cR:∀x∈pH++vd l,sK x.1:=λx ab=>by
  rcases List.mem_append.1 ab with ab|ab
  · exact Ul x ab
  · exact agv l x ab
 have gg:∀x∈pH++rP l g,sK x.1:=λx ab=>by
  rcases List.mem_append.1 ab with ab|ab
  · exact Ul x ab
  · exact Um l g x ab
 rw[aG,aE]
 rcases af9 aO aZ (by rw[List.map_append,List.map_append,Ub l g]) with h|⟨d,e,J,ae,aq⟩
 · exact .inl h
 · exact .inr ⟨d,e,J,ae,aq,Ui aO cR J,Ui aZ gg ae,agu (Ue l) J⟩
end fO
