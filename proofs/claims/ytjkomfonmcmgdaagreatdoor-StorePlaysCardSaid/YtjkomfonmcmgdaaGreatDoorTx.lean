/-
  PROVED HERE: contracts of functions (Tx). No condition beside each statement's own.
-/
import Derived.Test.YtjkomfonmcmgdaaGreatDoorSxb
set_option linter.unusedVariables false
set_option linter.unusedSimpArgs false
namespace bg
open Go
inductive Stop(kH:String):Prop
inductive dt where
 |mk (p:Prop)
def dt.p:dt->Prop
 |.mk p=>p
abbrev bad(w:String):dt:=.mk (Stop w)
abbrev hj(p:Prop)(k:dt):dt:=.mk (p/\k.p)
abbrev hS{α:Type}(f:α->dt):dt:=.mk (∃x:α,(f x).p)
abbrev Bg(c c':Prop)(a b:dt):dt:=.mk ((c->a.p)/\(c'->b.p))
inductive aS where
 |v (a:ad)
 |o (a:ad)
 |kz|lB
 |lt (i n:Nat)|le (i n:Nat)|eq (i n:Nat)
 |b9 (s:aS)
 |kA (l:List aS)
 |eQ (l:List aS)
def aS.ml:aS->Bool
 |.kz=>true
 |.lB=>false
 |.lt i n=>gY (.ofNat i) (.ofNat n)
 |.le i n=>j5 (.ofNat i) (.ofNat n)
 |.eq i n=>fc (.ofNat i) (.ofNat n)
 |.b9 s=>!s.ml
 |.v (.bool b)=>b
 |_=>false
def aS.wB:aS->Bool
 |.kz|.lB|.lt _ _|.le _ _|.eq _ _|.b9 _=>true
 |.v (.bool _)=>true
 |_=>false
mutual
def aS.den:aS->ad
 |.v a=>a
 |.o a=>a
 |.kz=>.bool true
 |.lB=>.bool false
 |.lt i n=>.bool (gY (.ofNat i) (.ofNat n))
 |.le i n=>.bool (j5 (.ofNat i) (.ofNat n))
 |.eq i n=>.bool (fc (.ofNat i) (.ofNat n))
 |.b9 s=>.bool (!s.ml)
 |.kA l=>.agg (aS.cq l)
 |.eQ l=>.aR (aS.cq l)
def aS.cq:List aS->List ad
 |[]=>[]
 |s::l=>s.den::aS.cq l
end
def nq:ad->aS
 |.bool true=>.kz
 |.bool false=>.lB
 |v=>.v v
abbrev dK:=List (Nat×aS)
def du:dK->Env
 |[]=>[]
 |(t,s)::l=>(t,s.den)::du l
def wC(t:Nat):dK->Option aS
 |[]=>none
 |(u,s)::l=>match Nat.beq t u with
  |true=>some s
  |false=>wC t l
def wD:Nat->List aS->Option aS
 |_,[]=>none
 |0,s::_=>some s
 |n+1,_::l=>wD n l
def wE:Nat->aS->List aS->List aS
 |_,_,[]=>[]
 |0,x,_::l=>x::l
 |n+1,x,s::l=>s::wE n x l
def Ez(t:Nat)(x:aS):dK->dK
 |[]=>[]
 |(u,s)::l=>match Nat.beq t u with
  |true=>(u,x)::l
  |false=>(u,s)::Ez t x l
def n9(m:Nat)(env:List aS)(Γ:dK):Acc->Option aS
 |.env j=>match Nat.blt j m with
  |true=>wD (m-1-j) env
  |false=>none
 |.reg p=>wC p.num Γ
 |.val v=>some (nq v)
def yA(m:Nat)(a:Acc)(b:aS)(env:List aS):List aS:=match a with
 |.env j=>wE (m-1-j) b env
 |_=>env
def wF(a:Acc)(b:aS)(Γ:dK):dK:=match a with
 |.reg p=>Ez p.num b Γ
 |_=>Γ
def aS.n_(s:aS)(K:aS->dt):dt:=match s with
 |.v a=>K (.v a)
 |.o a=>K (.o a)
 |.kz=>K .kz
 |.lB=>K .lB
 |.lt i n=>K (.lt i n)
 |.le i n=>K (.le i n)
 |.eq i n=>K (.eq i n)
 |.b9 s=>K (.b9 s)
 |.kA l=>K (.kA l)
 |.eQ l=>K (.eQ l)
def uJ:List aS->(List aS->dt)->dt
 |[],K=>K []
 |s::l,K=>s.n_ λs=>uJ l λl=>K (s::l)
def pU:dK->(dK->dt)->dt
 |[],K=>K []
 |(t,s)::l,K=>s.n_ λs=>pU l λl=>K ((t,s)::l)
inductive lY where
 |ty (t:TypeId)
 |is (v:ad)|io (v:ad)
 |z (k:IntKind)
 |n (k:IntKind)
 |o
 |p|OH
 |st|b
 |gN|gH (c:ct)
 |eQ (l:List lY)|kA (l:List lY)
 |OI (t:TypeId) (s:lY)
 |fn (f:Nat) (k:Nat)
inductive rQ where
 |a1 (s:lY)
 |t|f
 |p (s:lY)
 |e (r:Option lY) (s:lY)
 |fj (ins:List Nat) (outs:List (bW×List (Nat×lY)))
def H9:List aS->List aS
 |[]=>[]
 |.kA l::r=>l++H9 r
 |s::r=>s::H9 r
abbrev ld:=List (Nat×rQ)
def wG(k:Nat):ld->Option rQ
 |[]=>none
 |(j,o)::l=>match Nat.beq k j with
  |true=>some o
  |false=>wG k l
mutual
def shape(P:Program):Nat->lY->(aS->dt)->dt
 |0,_,_=>bad "shape"
 |n+1,s,K=>match s with
  |.is v=>K (nq v)
  |.io v=>K (.o v)
  |.z k=>hS λx:Int=>K (.o (.int k x))
  |.n k=>hS λx:Nat=>K (.v (.int k (.ofNat x)))
  |.o=>hS λx:ad=>K (.o x)
  |.p=>hS λx:Nat=>K (.v (.ptr x 0))
  |.OH=>hS λx:Nat=>hS λy:Nat=>K (.v (.ptr x y))
  |.st=>hS λx:List UInt8=>K (.v (.str x))
  |.b=>hS λx:Bool=>K (.v (.bool x))
  |.gN=>hS λx:Nat=>hS λy:Nat=>hS λz:Nat=>hS λc:ct=>K (.v (.slice x y z c))
  |.gH c=>hS λx:Nat=>hS λz:Nat=>K (.v (.slice x 0 z c))
  |.eQ l=>uK P n l λr=>K (.eQ r)
  |.kA l=>uK P n l λr=>K (.kA r)
  |.OI t s=>shape P n s λx=>K (.v (.iface t x.den))
  |.fn f k=>hS λx:List ad=>K (.v (.fn f [] x))
  |.ty t=>match P.underlying t with
   |some .bool=>hS λx:Bool=>K (.v (.bool x))
   |some (.int k)=>hS λx:Nat=>K (.v (.int k (.ofNat x)))
   |some .string=>hS λx:List UInt8=>K (.v (.str x))
   |some (.pointer _)=>hS λx:Nat=>K (.v (.ptr x 0))
   |some (.struct b6)=>uK P n (b6.toList.map λf=>.ty f.type) λr=>K (.kA (H9 r))
   |some (.tuple cF)=>uK P n (cF.toList.map .ty) λr=>K (.eQ r)
   |some .invalid=>K (.v (.aR []))
   |some _=>hS λx:ad=>K (.o x)
   |none=>K (.v (.aR []))
def uK(P:Program):Nat->List lY->(List aS->dt)->dt
 |0,_,_=>bad "shapes"
 |n+1,l,K=>match l with
  |[]=>K []
  |s::l=>shape P n s λx=>uK P n l λr=>K (x::r)
end
def aS.jj(fo:Option Bool)(A B:dt):aS->dt
 |.kz=>A
 |.lB=>B
 |.lt i n=>match fo with
  |none=>Bg (i<n) (¬i<n) A B
  |some true=>hj (i<n) A
  |some false=>hj (¬i<n) B
 |.le i n=>match fo with
  |none=>Bg (i<=n) (¬i<=n) A B
  |some true=>hj (i<=n) A
  |some false=>hj (¬i<=n) B
 |.eq i n=>match fo with
  |none=>Bg (i=n) (¬i=n) A B
  |some true=>hj (i=n) A
  |some false=>hj (¬i=n) B
 |.b9 s=>s.jj (match fo with|none=>none|some b=>some (!b)) B A
 |.v (.bool x)=>match fo with
  |none=>Bg (x=true) (x=false) A B
  |some true=>hj (x=true) A
  |some false=>hj (x=false) B
 |_=>bad "choice"
def EA(o:Option rQ):Option Bool:=match o with
 |some .t=>some true
 |some .f=>some false
 |_=>none
def H_(o:Option rQ)(t:TypeId):lY:=match o with
 |some (.a1 s)=>s
 |_=>.ty t
def Ia(op:BinOp)(x y:aS):Option aS:=match x,y with
 |.v (.int k (.ofNat a)),.v (.int cO (.ofNat b))=>match decide (k=cO) with
  |true=>match op with
   |.lss=>some (.lt a b)
   |.leq=>some (.le a b)
   |.gtr=>some (.lt b a)
   |.geq=>some (.le b a)
   |.eql=>some (.eq a b)
   |.neq=>some (.b9 (.eq a b))
   |_=>none
  |false=>none
 |_,_=>none
def Ib(op:BinOp)(x y:aS):Option (Prop×ad):=match x,y with
 |.v (.int k (.ofNat a)),.v (.int cO (.ofNat b))=>match decide (k=cO),op,k with
  |true,.add,.i64=>some (a+b<9223372036854775808,.int .i64 (.ofNat (a+b)))
  |true,.sub,.i64=>some (b<=a/\a<9223372036854775808,.int .i64 (.ofNat (a-b)))
  |true,.mul,.i64=>some (a*b<9223372036854775808,.int .i64 (.ofNat (a*b)))
  |true,.add,.u64=>some (a+b<18446744073709551616,.int .u64 (.ofNat (a+b)))
  |true,.sub,.u64=>some (b<=a/\a<18446744073709551616,.int .u64 (.ofNat (a-b)))
  |_,_,_=>none
 |.v (.str a),.v (.str b)=>match op with
  |.add=>some (a.length+b.length<=1000000000000,.str (a++b))
  |_=>none
 |_,_=>none
def wH:aS->List ad
 |.o a=>[a]
 |s=>s.den.cells
def wI:List aS->dt->dt
 |[],K=>K
 |.o a::l,K=>hj (a.de=true) (wI l K)
 |_::l,K=>wI l K
def wJ:List aS->Bool
 |[]=>true
 |.o _::l=>wJ l
 |s::l=>s.den.de&&wJ l
def yB(s:aS)(K:dt):dt:=match s with
 |.o a=>hj (a.de=true) K
 |.kA l=>match wJ l with
  |true=>wI l K
  |false=>bad "cells"
 |s=>match s.den.cells.all ad.de with
  |true=>K
  |false=>bad "cells"
def o4:aS->List aS
 |.kA l=>l
 |.v (.agg cs)=>cs.map nq
 |s=>[s]
def aS.Ic:aS->Bool
 |.o _=>true
 |_=>false
def wK(place:Nat->Option (Nat×Nat)):List aS->List (Nat×aS)->Option (List aS)
 |cells,[]=>some cells
 |cells,(i,s)::rest=>match place i with
  |none=>none
  |some (off,size)=>match Nat.beq (o4 s).length size&&Nat.ble (off+size) cells.length with
   |true=>wK place (cells.take off++o4 s++(cells.drop off).drop (o4 s).length) rest
   |false=>none
def pV:List (Nat×aS)->List aS
 |[]=>[]
 |(_,s)::l=>o4 s++pV l
def EB(P:Program)(t:TypeId)(len:Nat)(ps:List (Nat×aS))(K:TypeId->List aS->dt):dt:=match P.underlying t with
 |some (.slice e)=>match ef P e,eT P e with
  |some sz,some z=>match Nat.ble (len*sz) 16777216&&Nat.beq z.cells.length sz,(if len*sz=0 then[] else gm len z.cells).all ad.de,wK (λi=>some (i*sz,sz)) ((if len*sz=0 then[] else gm len z.cells).map nq) ps,wJ (pV ps) with
   |true,true,some cs,true=>wI (pV ps) (uJ cs λcs=>K e cs)
   |_,_,_,_=>bad "buildSlice"
  |_,_=>bad "buildSlice"
 |_=>bad "buildSlice"
def fp(a b:Bool):Bool:=a==b
def Ie(P:Program)(op:BinOp)(t:TypeId)(x y:aS):Option aS:=match x.wB&&y.wB,P.underlying t,op with
 |true,some .bool,.eql=>some (.v (.bool (fp x.ml y.ml)))
 |true,some .bool,.neq=>some (.b9 (.v (.bool (fp x.ml y.ml))))
 |_,_,_=>none
def XO(x y:aS):Bool:=match x,y with
 |.v (.ptr _ _),.v .aX|.v .aX,.v .aX|.v (.slice _ _ _ _),.v .aP|.v .aP,.v .aP|.v (.iface _ _),.v .fU|.v .fU,.v .fU=>true
 |_,_=>false
section
variable (P:Program) (inR:Bool) (call:aW)
abbrev rR:=aS->List cb->bU->ab->dt
abbrev rS:=ad->List cb->bU->ab->dt
def EC(fo:Option rQ)(t:TypeId)(f:ff)(args:List ad)(d:List cb)(q:bU)(h:ab)(K:rR)(cj:rS):dt:=match fo with
 |some (.p s)=>shape P 14 s λx=>hS λg:ab=>hj (call f args h=.cw x.den g) (cj x.den d q g)
 |some (.e r s)=>.mk ((shape P 14 (match r with|some r=>r|none=>.ty t) λx=>hS λg:ab=>hj (call f args h=.ret x.den g) (K x d q g)).p\/(shape P 9 s λx=>hS λg:ab=>hj (call f args h=.cw x.den g) (cj x.den d q g)).p)
 |fo=>shape P 14 (H_ fo t) λx=>hS λg:ab=>hj (call f args h=.ret x.den g) (K x d q g)
def s6(fo:Option rQ)(o:Oper)(g:Operand->aS)(d:List cb)(q:bU)(h:ab)(K:rR)(cj:rS):dt:=
 match HJ o (λx=>(g x).den) with
 |0=>match c7 P o (λx=>(g x).den) h with
  |.val v aw=>match fo with
   |some (.a1 .o)=>K (.o v) d q aw
   |_=>K (.v v) d q aw
  |.cw v aw=>cj v d q aw
  |.call f args aw=>EC P call fo o.type (.fn f) args d q aw K cj
  |.eb l args aw=>EC P call fo o.type (.eb l) args d q aw K cj
  |.m_ x=>match inR with
   |true=>bad "defer"
   |false=>K (.v (.aR [])) (x::d) q h
  |.vy=>match inR with
   |true=>bad "recover"
   |false=>match q with
    |.none=>K (.v .fU) d .none h
    |.done v=>K (.v .fU) d (.done v) h
    |.act v=>K (.v v) d (.done v) h
  |.fail w=>bad w
 |1=>shape P 14 (H_ fo o.type) λx=>hj (qG P o (λy=>(g y).den) h x.den) (K x d q h)
 |_=>shape P 14 (H_ fo o.type) λx=>hS λaw:ab=>hj (yl P o (λy=>(g y).den) h x.den aw) (K x d q aw)
def Ig(fo:Option rQ)(o:Oper)(g:Operand->aS)(d:List cb)(q:bU)(h:ab)(K:rR)(cj:rS):dt:=match o.op with
 |.move x|.assign x=>(g x).n_ λs=>K s d q h
 |.unOp .not _ x=>match(g x).wB with
  |true=>(g x).n_ λs=>K (.b9 s) d q h
  |false=>bad "not"
 |.binOp op t x y _=>(g x).n_ λu=>(g y).n_ λw=>match(match Ia op u w with|some s=>some s|none=>Ie P op t u w) with
  |some s=>K s d q h
  |none=>match XO u w with
   |true=>match ec P h op t x y u.den w.den with
    |some v=>(nq v).n_ λs=>K s d q h
    |none=>bad "nil"
   |false=>match(match fo with|none=>Ib op u w|some _=>none) with
    |some (p,v)=>hj p (K (.v v) d q h)
    |none=>s6 P inR call fo o g d q h K cj
 |.extract x i=>match g x with
  |.eQ l=>match wD i l with
   |some s=>s.n_ λs=>K s d q h
   |none=>bad "extract"
  |_=>s6 P inR call fo o g d q h K cj
 |.indexAddr t x i=>match P.underlying t,g x,fe (g i).den with
  |some (.array m e),.v (.ptr b off),some n=>match ef P e with
   |some sz=>hj (n<m) (K (.v (.ptr b (off+n*sz))) d q h)
   |none=>bad "indexAddr"
  |some (.slice e),.v (.slice b off m c),some n=>match ef P e with
   |some sz=>hj (n<m) (K (.v (.ptr b (off+n*sz))) d q h)
   |none=>bad "indexAddr"
  |_,_,_=>bad "indexAddr of what"
 |.store t a x=>match(g a).den,ef P t with
  |.ptr b off,some n=>match Nat.beq (wH (g x)).length n with
   |true=>(g x).n_ λs=>yB s (hS λe6:ab=>hj (storeCells h b off (wH s)=some e6) (K (.v (.aR [])) d q e6))
   |false=>bad "store size"
  |_,_=>bad "store"
 |.build t parts=>match(pV (parts.toList.map λp=>(p.1,g p.2))).any aS.Ic with
  |false=>s6 P inR call fo o g d q h K cj
  |true=>match eT P t,P.underlying t with
   |some z,some (.struct b6)=>match b6.toList.all (λf=>(ef P f.type).isSome),wK (λi=>(b6[i]?).map λf=>(f.offset,P.cellsOf f.type)) (z.cells.map nq) (parts.toList.map λp=>(p.1,g p.2)),wJ (pV (parts.toList.map λp=>(p.1,g p.2))) with
    |true,some cs,true=>wI (pV (parts.toList.map λp=>(p.1,g p.2))) (uJ cs λcs=>K (.kA cs) d q h)
    |_,_,_=>bad "build"
   |_,_=>bad "build of what"
 |.buildSlice t len parts=>match(pV (parts.toList.map λp=>(p.1,g p.2))).any aS.Ic with
  |false=>s6 P inR call fo o g d q h K cj
  |true=>EB P t len (parts.toList.map λp=>(p.1,g p.2)) λe cs=>K (.v (.slice h.n 0 len (.exact len))) d q (h.push (.cells (aS.cq cs) e .own 0 0))
 |.box e x=>(g x).n_ λs=>yB s (K (.v (.ptr h.n 0)) d q (h.push (.cells (wH s) e .own 0 0)))
 |.call c=>match c.callee with
  |.builtin .len=>match c.args.toList.map g,c.argTypes[0]? with
   |[.o a],some t=>hS λn:Nat=>hj (bV P h t a=some (.int .i64 (.ofNat n))) (K (.v (.int .i64 (.ofNat n))) d q h)
   |_,_=>s6 P inR call fo o g d q h K cj
  |_=>s6 P inR call fo o g d q h K cj
 |_=>s6 P inR call fo o g d q h K cj
end
theorem aS.rT{s:aS}(h:s.wB=true):s.den=.bool s.ml:=by
 cases s with
 |v a=>cases a<;>first|rfl|cases h
 |o a=>cases h
 |kA l=>cases h
 |eQ l=>cases h
 |kz=>rfl
 |lB=>rfl
 |lt i n=>rfl
 |le i n=>rfl
 |eq i n=>rfl
 |b9 s=>rfl
theorem Bh(a:ad):(nq a).den=a:=by
 unfold nq;split<;>rfl
theorem Ih:∀(n:Nat) (l:List aS),(wD n l).map aS.den=nth n (aS.cq l)
 |0,[]=>rfl
 |_+1,[]=>rfl
 |0,x::l=>rfl
 |n+1,x::l=>Ih n l
theorem OJ(n:Nat)(l:List aS)(s:aS)(h:wD n l=some s):nth n (aS.cq l)=some s.den:=by
 rw[<-Ih,h];rfl
theorem OK(t:Nat):∀Γ:dK,(wC t Γ).map aS.den=eo t (du Γ)
 |[]=>rfl
 |(u,x)::l=>by
  simp only[wC,du,eo]
  cases ag:Nat.beq t u with
  |true=>rfl
  |false=>exact OK t l
def im(m:Nat)(l:List ad)(G:Env):Acc->Option ad
 |.env j=>match Nat.blt j m with
  |true=>nth (m-1-j) l
  |false=>none
 |.reg p=>eo p.num G
 |.val v=>some v
theorem yC(m:Nat)(env:List aS)(Γ:dK)(a:Acc):(n9 m env Γ a).map aS.den=im m (aS.cq env) (du Γ) a:=by
 cases a with
 |env j=>
  simp only[n9,im]
  cases Nat.blt j m with
  |true=>exact Ih _ _
  |false=>rfl
 |reg p=>exact OK _ _
 |val v=>simp only[n9,im,Option.map_some,Bh]
theorem yD{m:Nat}{l:List ad}{G:Env}{r:ba}(hm:Mod r G){a:Acc}{v:ad}(h:im m l G a=some v):ep m l r a=v:=by
 cases a with
 |env j=>
  simp only[im] at h
  split at h
  · simp only[ep,h,Option.getD_some]
  · cases h
 |reg p=>simp only[im] at h;simp only[ep];rw[<-Ob p];exact hm _ _ h
 |val x=>cases h;rfl
theorem Bi{m:Nat}{l:List ad}{G:Env}{a:Acc}{v:ad}(x:ad)(h:im m l G a=some v):im (m+1) (x::l) G a=some v:=by
 cases a with
 |env j=>
  simp only[im] at h⊢
  split at h
  · rename_i ag
    have aO:j<m:=by simpa using ag
    have fh:Nat.blt j (m+1)=true:=by simp;omega
    rw[fh]
    have:m+1-1-j=(m-1-j)+1:=by omega
    rw[this];exact h
  · cases h
 |reg p=>exact h
 |val x=>exact h
theorem OL(x:aS):∀(n:Nat) (l:List aS),(∀s,wD n l=some s->s.den=x.den)->aS.cq (wE n x l)=aS.cq l
 |0,[],_=>rfl
 |_+1,[],_=>rfl
 |0,s::l,h=>by simp only[wE,aS.cq,h s rfl]
 |n+1,s::l,h=>by simp only[wE,aS.cq];rw[OL x n l h]
theorem OM(x:aS):∀(n:Nat) (l:List aS),(wE n x l).length=l.length
 |0,[]=>rfl
 |_+1,[]=>rfl
 |0,s::l=>rfl
 |n+1,s::l=>by simp only[wE,List.length_cons,OM x n l]
theorem ON(t:Nat)(x:aS):∀Γ:dK,(∀s,wC t Γ=some s->s.den=x.den)->du (Ez t x Γ)=du Γ
 |[],_=>rfl
 |(u,s)::l,h=>by
  simp only[Ez]
  simp only[wC] at h
  cases ag:Nat.beq t u with
  |true=>rw[ag] at h;simp only[du,h s rfl]
  |false=>rw[ag] at h;simp only[du];rw[ON t x l h]
theorem yE{m:Nat}{env:List aS}{Γ:dK}{a:Acc}{s x:aS}(h:n9 m env Γ a=some s)(e:s.den=x.den):aS.cq (yA m a x env)=aS.cq env/\du (wF a x Γ)=du Γ/\(yA m a x env).length=env.length:=by
 cases a with
 |env j=>
  simp only[n9] at h
  split at h
  · exact⟨OL x _ _ λs' al=>by rw[h] at al;cases al;exact e,rfl,OM _ _ _⟩
  · cases h
 |reg p=>exact⟨rfl,ON _ _ _ λs' al=>by rw[show wC p.num Γ=some s from h] at al;cases al;exact e,rfl⟩
 |val v=>exact⟨rfl,rfl,rfl⟩
theorem aS.oc{s:aS}{K:aS->dt}(h:(s.n_ K).p):(K s).p:=by cases s<;>exact h
theorem wL:∀{l:List aS} {K:List aS->dt},(uJ l K).p->(K l).p
 |[],_,h=>h
 |s::l,K,h=>wL (l:=l) (aS.oc h)
theorem qL:∀{l:dK} {K:dK->dt},(pU l K).p->(K l).p
 |[],_,h=>h
 |(t,s)::l,K,h=>qL (l:=l) (aS.oc h)
theorem OO{P:Program}:∀(n:Nat),(∀(s:lY) (K:aS->dt),(shape P n s K).p->∃x,(K x).p)/\(∀(l:List lY) (K:List aS->dt),(uK P n l K).p->∃x,(K x).p)
 |0=>⟨λs K h=>(by simp only[shape] at h;cases h),λl K h=>(by simp only[uK] at h;cases h)⟩
 |n+1=>by
  obtain⟨I,ae⟩:=OO (P:=P) n
  refine⟨λs K h=>?_,λl K h=>?_⟩
  · simp only[shape] at h
    cases s with
    |is v=>exact⟨_,h⟩
    |io v=>exact⟨_,h⟩
    |z k=>obtain⟨x,h⟩:=h;exact⟨_,h⟩
    |n k=>obtain⟨x,h⟩:=h;exact⟨_,h⟩
    |o=>obtain⟨x,h⟩:=h;exact⟨_,h⟩
    |p=>obtain⟨x,h⟩:=h;exact⟨_,h⟩
    |OH=>obtain⟨x,y,h⟩:=h;exact⟨_,h⟩
    |st=>obtain⟨x,h⟩:=h;exact⟨_,h⟩
    |b=>obtain⟨x,h⟩:=h;exact⟨_,h⟩
    |gN=>obtain⟨x,y,z,c,h⟩:=h;exact⟨_,h⟩
    |gH c=>obtain⟨x,z,h⟩:=h;exact⟨_,h⟩
    |eQ l=>obtain⟨r,h⟩:=ae _ _ h;exact⟨_,h⟩
    |kA l=>obtain⟨r,h⟩:=ae _ _ h;exact⟨_,h⟩
    |OI t s=>obtain⟨r,h⟩:=I _ _ h;exact⟨_,h⟩
    |fn f k=>obtain⟨x,h⟩:=h;exact⟨_,h⟩
    |ty t=>
     simp only at h
     split at h
     · obtain⟨x,h⟩:=h;exact⟨_,h⟩
     · obtain⟨x,h⟩:=h;exact⟨_,h⟩
     · obtain⟨x,h⟩:=h;exact⟨_,h⟩
     · obtain⟨x,h⟩:=h;exact⟨_,h⟩
     · obtain⟨r,h⟩:=ae _ _ h;exact⟨_,h⟩
     · obtain⟨r,h⟩:=ae _ _ h;exact⟨_,h⟩
     · exact⟨_,h⟩
     · obtain⟨x,h⟩:=h;exact⟨_,h⟩
     · exact⟨_,h⟩
  · simp only[uK] at h
    cases l with
    |nil=>exact⟨_,h⟩
    |cons s l=>
     obtain⟨x,h⟩:=I _ _ h
     obtain⟨r,h⟩:=ae _ _ h
     exact⟨_,h⟩
theorem wM{P:Program}{n:Nat}{s:lY}{K:aS->dt}(h:(shape P n s K).p):∃x,(K x).p:=(OO n).1 s K h
theorem Ii{p:Prop}{A B:dt}{fo:Option Bool}(h:(match fo with
  |none=>Bg p (¬p) A B
  |some true=>hj p A
  |some false=>hj (¬p) B).p):(p/\A.p)\/(¬p/\B.p):=by
 cases fo with
 |none=>by_cases a0:p
        · exact .inl ⟨a0,h.1 a0⟩
        · exact .inr ⟨a0,h.2 a0⟩
 |some b=>cases b with
  |true=>exact .inl h
  |false=>exact .inr h
theorem ED:∀(s:aS) {fo:Option Bool} {A B:dt},(s.jj fo A B).p->s.wB=true/\((s.ml=true/\A.p)\/(s.ml=false/\B.p))
 |.kz,_,_,_,h=>⟨rfl,.inl ⟨rfl,h⟩⟩
 |.lB,_,_,_,h=>⟨rfl,.inr ⟨rfl,h⟩⟩
 |.lt i n,fo,A,B,h=>by
  refine⟨rfl,?_⟩
  rcases Ii (p:=i<n) h with⟨I,ae⟩|⟨I,ae⟩
  · exact .inl ⟨eD I,ae⟩
  · exact .inr ⟨fI I,ae⟩
 |.le i n,fo,A,B,h=>by
  refine⟨rfl,?_⟩
  rcases Ii (p:=i<=n) h with⟨I,ae⟩|⟨I,ae⟩
  · exact .inl ⟨n8 I,ae⟩
  · exact .inr ⟨pS I,ae⟩
 |.eq i n,fo,A,B,h=>by
  refine⟨rfl,?_⟩
  rcases Ii (p:=i=n) h with⟨I,ae⟩|⟨I,ae⟩
  · exact .inl ⟨o2 I,ae⟩
  · exact .inr ⟨kS I,ae⟩
 |.b9 s,fo,A,B,h=>by
  refine⟨rfl,?_⟩
  simp only[aS.jj] at h
  obtain⟨_,ae⟩:=ED s h
  simp only[aS.ml]
  rcases ae with⟨e,k⟩|⟨e,k⟩
  · right;exact⟨by rw[e];rfl,k⟩
  · left;exact⟨by rw[e];rfl,k⟩
 |.v a,fo,A,B,h=>by
  cases a<;>simp only[aS.jj] at h<;>first|(cases h;done)|skip
  rename_i x
  refine⟨rfl,?_⟩
  simp only[aS.ml]
  cases x with
  |true=>left;refine⟨rfl,?_⟩;cases fo with
   |none=>exact h.1 rfl
   |some b=>cases b with
    |true=>exact h.2
    |false=>cases h.1
  |false=>right;refine⟨rfl,?_⟩;cases fo with
   |none=>exact h.2 rfl
   |some b=>cases b with
    |true=>cases h.1
    |false=>exact h.2
 |.o a,_,_,_,h=>by simp only[aS.jj] at h;cases h
 |.kA l,_,_,_,h=>by simp only[aS.jj] at h;cases h
 |.eQ l,_,_,_,h=>by simp only[aS.jj] at h;cases h
section
variable {P:Program} {inR:Bool} {call:aW}
def jA(x:z2)(K:rR)(cj:rS):Prop:=(∃s d q h,x=.ok (aS.den s) d q h/\(K s d q h).p)\/∃v d q h,x=.cw v d q h/\(cj v d q h).p
theorem jA.val{o:Oper}{g:Operand->ad}{d:List cb}{q:bU}{h aw:ab}{K:rR}{cj:rS}{s:aS}(e:c7 P o g h=.val s.den aw)(k:(K s d q aw).p):jA (eI P inR call none o g d q h) K cj:=
 .inl ⟨s,d,q,aw,by simp only[eI,fg,e],k⟩
theorem Bj{K:dt}:∀(l:List aS),wJ l=true->(wI l K).p->(aS.cq l).all ad.de=true/\K.p
 |[],_,h=>⟨rfl,h⟩
 |x::l,ay,h=>by
  cases x with
  |o a=>
   obtain⟨I,ae⟩:=h
   obtain⟨bG,b0⟩:=Bj l ay ae
   exact⟨by simp only[aS.cq,List.all_cons,aS.den,I,bG,Bool.and_self],b0⟩
  |_=>
   simp only[wJ,Bool.and_eq_true] at ay
   simp only[wI] at h
   obtain⟨bG,b0⟩:=Bj l ay.2 h
   exact⟨by simp only[aS.cq,List.all_cons,ay.1,bG,Bool.and_self],b0⟩
theorem Ij{s:aS}{K:dt}(h:(yB s K).p):s.den.cells=wH s/\(wH s).all ad.de=true/\K.p:=by
 cases s with
 |o a=>
  obtain⟨I,ae⟩:=h
  refine⟨?_,by simp[wH,I],ae⟩
  show a.cells=[a]
  cases a<;>first|rfl|cases I
 |kA l=>
  simp only[yB] at h
  split at h
  · rename_i ay;exact⟨rfl,Bj l ay h⟩
  · cases h
 |_=>
  simp only[yB] at h
  split at h
  · rename_i ay;exact⟨rfl,ay,h⟩
  · cases h
theorem nr:∀l:List aS,aS.cq l=l.map aS.den
 |[]=>rfl
 |s::l=>by simp only[aS.cq,List.map_cons,nr l]
theorem XP{s:aS}(h:(aS.cq (o4 s)).all ad.de=true):s.den.cells=aS.cq (o4 s)/\s.den≠ .bad:=by
 have one:∀a:ad,a.de=true->a.cells=[a]/\a≠ .bad:=λa aV=>by cases a<;>first|(cases aV;done)|exact⟨rfl,λh=>by cases h⟩
 have key:o4 s=[s]->s.den.cells=aS.cq (o4 s)/\s.den≠ .bad:=λe=>by
  rw[e] at h⊢
  simp only[aS.cq,List.all_cons,List.all_nil,Bool.and_true] at h⊢
  exact one _ h
 cases s with
 |kA l=>exact⟨rfl,nofun⟩
 |v a=>
  cases a with
  |agg cs=>
   refine⟨?_,nofun⟩
   show cs=aS.cq (cs.map nq)
   rw[nr,List.map_map]
   have:aS.den∘nq=id:=funext Bh
   rw[this,List.map_id]
  |_=>exact key rfl
 |_=>exact key rfl
theorem XQ{place:Nat->Option (Nat×Nat)}{cells:List ad}{i:Nat}{v:ad}{rest:List (Nat×ad)}{off size:Nat}(aI:v≠ .bad)(a0:place i=some (off,size))(ag:(Nat.beq v.cells.length size&&Nat.ble (off+size) cells.length)=true){cs:List ad}(ah:gD off v.cells cells=some cs):lq place cells ((i,v)::rest)=lq place cs rest:=by
 cases v<;>first|exact absurd rfl aI|simp only[lq,a0,ag,ah]
theorem Ik{place:Nat->Option (Nat×Nat)}:∀(ps:List (Nat×aS)) (cells cs:List aS),wK place cells ps=some cs->(aS.cq (pV ps)).all ad.de=true->lq place (aS.cq cells) (ps.map λp=>(p.1,p.2.den))=some (aS.cq cs)
 |[],cells,cs,h,_=>by cases h;rfl
 |(i,s)::rest,cells,cs,h,aV=>by
  simp only[pV,nr,List.map_append,List.all_append,Bool.and_eq_true] at aV
  rw[<-nr,<-nr] at aV
  obtain⟨bG,b0⟩:=XP aV.1
  simp only[wK] at h
  split at h
  · cases h
  · rename_i off size a0
    split at h
    · rename_i ag
      have aA:(aS.cq (o4 s)).length=(o4 s).length:=by rw[nr,List.length_map]
      have ah:(aS.cq cells).length=cells.length:=by rw[nr,List.length_map]
      have fh:=ag
      simp only[Bool.and_eq_true,Nat.ble_eq] at fh
      have bJ:=Nat.eq_of_beq_eq_true fh.1
      have Ag:gD off s.den.cells (aS.cq cells)=some (aS.cq (cells.take off++o4 s++(cells.drop off).drop (o4 s).length)):=by
       have:=yv ((aS.cq cells).take off) (aS.cq (o4 s)) ((aS.cq cells).drop off) aV.1 (by simp;omega)
       rw[List.length_take,Nat.min_eq_left (by omega),List.take_append_drop] at this
       rw[bG,this,aA]
       simp only[nr,List.map_append,List.map_take,List.map_drop,List.append_assoc]
      rw[List.map_cons,XQ b0 a0 (by rw[bG,aA,ah];exact ag) Ag]
      exact Ik rest _ cs h aV.2
    · cases h
theorem OP{place:Nat->Option (Nat×Nat)}:∀(ps:List (Nat×aS)) (cells cs:List aS),wK place cells ps=some cs->(aS.cq cells).all ad.de=true->(aS.cq (pV ps)).all ad.de=true->(aS.cq cs).all ad.de=true
 |[],cells,cs,h,ah,_=>by cases h;exact ah
 |(i,s)::rest,cells,cs,h,ah,aV=>by
  simp only[pV,nr,List.map_append,List.all_append,Bool.and_eq_true] at aV
  rw[<-nr,<-nr] at aV
  simp only[wK] at h
  split at h
  · cases h
  · split at h
    · refine OP rest _ cs h ?_ aV.2
      rw[nr] at ah⊢
      rw[List.all_eq_true] at ah⊢
      have I:=aV.1
      rw[nr,List.all_eq_true] at I
      intro x aa
      rw[List.map_append,List.map_append,List.mem_append,List.mem_append] at aa
      rcases aa with(aa|aa)|aa
      · rw[List.map_take] at aa;exact ah x (List.mem_of_mem_take aa)
      · exact I x aa
      · rw[List.map_drop,List.map_drop] at aa;exact ah x (List.mem_of_mem_drop (List.mem_of_mem_drop aa))
    · cases h
theorem OQ{t:TypeId}{len:Nat}{ps:List (Nat×aS)}{K:TypeId->List aS->dt}(h:(EB P t len ps K).p):∃e sz z cs,P.underlying t=some (.slice e)/\ef P e=some sz/\eT P e=some z/\(Nat.ble (len*sz) 16777216&&Nat.beq z.cells.length sz)=true/\lq (λi=>some (i*sz,sz)) (if len*sz=0 then[] else gm len z.cells) (ps.map λp=>(p.1,p.2.den))=some (aS.cq cs)/\(aS.cq cs).all ad.de=true/\(K e cs).p:=by
 unfold EB at h
 split at h
 · rename_i e hu
   split at h
   · rename_i sz z al a7
     split at h
     · rename_i cs I ae ax aN
       obtain⟨cu,k⟩:=Bj _ aN h
       have c6:aS.cq ((if len*sz=0 then[] else gm len z.cells).map nq)=(if len*sz=0 then[] else gm len z.cells):=by rw[nr,List.map_map,show aS.den∘nq=id from funext Bh,List.map_id]
       have hf:=Ik _ _ _ ax cu
       have ah:=OP _ _ _ ax (by rw[c6];exact ae) cu
       rw[c6] at hf
       exact⟨e,sz,z,cs,hu,al,a7,I,hf,ah,wL k⟩
     · cases h
   · cases h
 · cases h
theorem OR{g:Operand->aS}(parts:Array (Nat×Operand)):(parts.toList.map λp=>(p.1,g p.2)).map (λp=>(p.1,p.2.den))=parts.toList.map λp=>(p.1,(g p.2).den):=by
 rw[List.map_map];rfl
theorem OS{fo:Option rQ}{t:TypeId}{f:ff}{args:List ad}{d:List cb}{q:bU}{h:ab}{K:rR}{cj:rS}(aa:(EC P call fo t f args d q h K cj).p):jA (z3 d q (call f args h)) K cj:=by
 unfold EC at aa
 split at aa
 · obtain⟨x,g,e,k⟩:=wM aa
   rw[e];exact .inr ⟨_,_,_,_,rfl,k⟩
 · rcases aa with aa|aa
   · obtain⟨x,g,e,k⟩:=wM aa
     rw[e];exact .inl ⟨_,_,_,_,rfl,k⟩
   · obtain⟨x,g,e,k⟩:=wM aa
     rw[e];exact .inr ⟨_,_,_,_,rfl,k⟩
 · obtain⟨x,g,e,k⟩:=wM aa
   rw[e];exact .inl ⟨_,_,_,_,rfl,k⟩
theorem wN{fo:Option rQ}{o:Oper}{g:Operand->aS}{d:List cb}{q:bU}{h:ab}{K:rR}{cj:rS}(aa:(s6 P inR call fo o g d q h K cj).p):jA (eI P inR call none o (λx=>(g x).den) d q h) K cj:=by
 unfold s6 at aa
 split at aa
 · split at aa
   · rename_i v aw he
     split at aa
     · exact jA.val (s:=.o v) he aa
     · exact jA.val (s:=.v v) he aa
   · rename_i v aw he
     exact .inr ⟨v,d,q,aw,by simp only[eI,fg,he],aa⟩
   · rename_i f args aw he
     have:=OS aa
     simpa only[eI,fg,he] using this
   · rename_i l args aw he
     have:=OS aa
     simpa only[eI,fg,he] using this
   · rename_i x he
     split at aa
     · cases aa
     · exact .inl ⟨.v (.aR []),_,_,_,by simp only[eI,fg,he];rfl,aa⟩
   · rename_i he
     split at aa
     · cases aa
     · split at aa
       · exact .inl ⟨.v .fU,_,_,_,by simp only[eI,fg,he];rfl,aa⟩
       · exact .inl ⟨.v .fU,_,_,_,by simp only[eI,fg,he];rfl,aa⟩
       · rename_i v
         exact .inl ⟨.v v,_,_,_,by simp only[eI,fg,he];rfl,aa⟩
   · cases aa
 · obtain⟨x,c,k⟩:=wM aa
   exact jA.val (wu c) k
 · obtain⟨x,aw,c,k⟩:=wM aa
   exact jA.val (HT c) k
theorem XR{op:BinOp}{x y s:aS}(aa:Ia op x y=some s)(h:ab)(t:TypeId)(a b:Operand):ec P h op t a b x.den y.den=some s.den:=by
 unfold Ia at aa
 split at aa
 · rename_i k cW cO hP
   split at aa
   · rename_i ay
     obtain rfl:k=cO:=of_decide_eq_true ay
     split at aa<;>first|(cases aa;done)|(cases aa;simp only[aS.den,ec,arith,if_true,aS.ml])
   · cases aa
 · cases aa
theorem XS{op:BinOp}{x y s:aS}{t:TypeId}(aa:Ie P op t x y=some s)(h:ab)(a b:Operand):ec P h op t a b x.den y.den=some s.den:=by
 unfold Ie at aa
 split at aa
 · rename_i ag hu
   rw[Bool.and_eq_true] at ag
   cases aa
   rw[aS.rT ag.1,aS.rT ag.2]
   simp only[ec,tK,if_true,gZ,hu,aS.den,fp]
 · rename_i ag hu
   rw[Bool.and_eq_true] at ag
   cases aa
   rw[aS.rT ag.1,aS.rT ag.2]
   simp only[ec,tK,if_true,gZ,hu,aS.den,aS.ml,fp]
 · cases aa
theorem XT{op:BinOp}{x y:aS}{p:Prop}{v:ad}(aa:Ib op x y=some (p,v))(a0:p)(h:ab)(t:TypeId)(a b:Operand):ec P h op t a b x.den y.den=some v:=by
 unfold Ib at aa
 split at aa
 · rename_i k cW cO hP
   split at aa
   · rename_i ay;cases aa;obtain rfl:=of_decide_eq_true ay
     simp only[aS.den,ec,if_true];exact Xx a0
   · rename_i ay;cases aa;obtain rfl:=of_decide_eq_true ay
     simp only[aS.den,ec,if_true];exact yw a0.1 a0.2
   · rename_i ay;cases aa;obtain rfl:=of_decide_eq_true ay
     simp only[aS.den,ec,if_true];exact Xy a0
   · rename_i ay;cases aa;obtain rfl:=of_decide_eq_true ay
     simp only[aS.den,ec,if_true];exact XA a0
   · rename_i ay;cases aa;obtain rfl:=of_decide_eq_true ay
     simp only[aS.den,ec,if_true];exact XB a0.1 a0.2
   · cases aa
 · split at aa
   · cases aa
     simp only[aS.den,ec];exact iR a0
   · cases aa
 · cases aa
theorem XU{fo:Option rQ}{o:Oper}{g:Operand->aS}{d:List cb}{q:bU}{h:ab}{K:rR}{cj:rS}(aa:(Ig P inR call fo o g d q h K cj).p):jA (eI P inR call none o (λx=>(g x).den) d q h) K cj:=by
 unfold Ig at aa
 split at aa
 · rename_i x bc
   exact jA.val (s:=g x) (by simp only[c7,bc]) (aS.oc aa)
 · rename_i x bc
   exact jA.val (s:=g x) (by simp only[c7,bc]) (aS.oc aa)
 · rename_i t x bc
   split at aa
   · rename_i ag
     exact jA.val (s:=.b9 (g x)) (by simp only[c7,bc,aS.rT ag];rfl) (aS.oc aa)
   · cases aa
 · rename_i op t x y yt bc
   replace aa:=aS.oc (aS.oc aa)
   have key:∀{s:aS},ec P h op t x y (g x).den (g y).den=some s.den->(K s d q h).p->jA (eI P inR call none o (λx=>(g x).den) d q h) K cj:=λ{s} e k=>jA.val (s:=s) (by simp only[c7,bc,e,gL]) k
   split at aa
   · rename_i s al
     split at al
     · rename_i s' en;cases al;exact key (XR en h t x y) aa
     · exact key (XS al h x y) aa
   · split at aa
     · split at aa
       · rename_i v aI;exact key (s:=nq v) (by rw[Bh];exact aI) (aS.oc aa)
       · cases aa
     · split at aa
       · rename_i p v a0
         cases fo with
         |none=>exact key (s:=.v v) (XT a0 aa.1 h t x y) aa.2
         |some _=>cases a0
       · exact wN aa
 · rename_i x i bc
   split at aa
   · rename_i l aA
     split at aa
     · rename_i s al
       exact jA.val (s:=s) (by simp only[c7,bc,aA,aS.den,OJ _ _ _ al,gL]) (aS.oc aa)
     · cases aa
   · exact wN aa
 · rename_i t x i bc
   split at aa
   · rename_i m e b off n hu eU hi
     split at aa
     · rename_i sz a7
       exact jA.val (s:=.v (.ptr b (off+n*sz))) (by simp only[c7,bc,hu,eU,aS.den,hi,a7,if_pos aa.1]) aa.2
     · cases aa
   · rename_i e b off m c n hu eU hi
     split at aa
     · rename_i sz a7
       exact jA.val (s:=.v (.ptr b (off+n*sz))) (by simp only[c7,bc,hu,eU,aS.den,hi,a7,if_pos aa.1]) aa.2
     · cases aa
   · cases aa
 · rename_i t a x bc
   split at aa
   · rename_i b off n wO a7
     split at aa
     · rename_i aA
       obtain⟨aG,aE,e6,bH,k⟩:=Ij (aS.oc aa)
       have ah:yl P o (λy=>(g y).den) h (.aR []) e6:=by
        unfold yl
        rw[bc]
        simp only[wO]
        rw[aG]
        exact⟨by rw[a7,Nat.eq_of_beq_eq_true aA],bH,trivial⟩
       exact jA.val (s:=.v (.aR [])) (HT ah) k
     · cases aa
   · cases aa
 · rename_i t parts bc
   split at aa
   · exact wN aa
   · split at aa
     · rename_i z b6 a7 hu
       split at aa
       · rename_i cs I ae ax
         obtain⟨cu,k⟩:=Bj _ ax aa
         have hf:=Ik _ _ _ ae cu
         rw[show aS.cq (z.cells.map nq)=z.cells by rw[nr,List.map_map,show aS.den∘nq=id from funext Bh,List.map_id],List.map_map] at hf
         exact jA.val (s:=.kA cs) (by simp only[c7,bc,a7,hu,I];exact by rw[show(parts.toList.map λp=>(p.1,(g p.2).den))=parts.toList.map ((λp=>(p.1,aS.den p.2))∘ λp=>(p.1,g p.2)) from rfl,hf];rfl) (wL k)
       · cases aa
     · cases aa
 · rename_i t len parts bc
   split at aa
   · exact wN aa
   · obtain⟨e,sz,z,cs,hu,al,a7,I,hf,ah,k⟩:=OQ aa
     rw[OR] at hf
     exact jA.val (s:=.v (.slice h.n 0 len (.exact len))) (by simp only[c7,bc,hu,al,a7,I,hf,newRow,ah];rfl) k
 · rename_i e x bc
   obtain⟨aG,aE,k⟩:=Ij (aS.oc aa)
   exact jA.val (s:=.v (.ptr h.n 0)) (by simp only[c7,bc,newRow,aG,aE];rfl) k
 · rename_i c bc
   split at aa
   · rename_i kQ
     split at aa
     · rename_i a t aV bm
       obtain⟨n,e,k⟩:=aa
       have iQ:c.args.toList.map (λy=>(g y).den)=[a]:=by
        have:(c.args.toList.map g).map aS.den=[a]:=by rw[aV];rfl
        rw[List.map_map] at this;exact this
       have ah:qG P o (λy=>(g y).den) h (.int .i64 (.ofNat n)):=by
        unfold qG
        rw[bc]
        simp only[kQ,iQ,bm]
        exact e
       exact jA.val (s:=.v (.int .i64 (.ofNat n))) (wu ah) k
     · exact wN aa
   · exact wN aa
 · exact wN aa
end
def keyOf(jS i:Nat)(o:Oper):Nat:=match o.dst with
 |some t=>t
 |none=>3000+50*jS+i
section
variable (P:Program) (need:Nat)
def mY(m:Nat)(env:List aS)(Γ:dK)(loc:List (Nat×Acc))(x:Operand):aS:=match n9 m env Γ (da P need loc x) with
 |some s=>s
 |none=>.v .bad
def EE(m:Nat)(env:List aS)(Γ:dK)(loc:List (Nat×Acc))(o:Oper):Bool:=o.op.operands.toList.all λx=>(n9 m env Γ (da P need loc x)).isSome
def EF(fo:Option Bool)(gd:Option (Acc×Bool))(m:Nat)(env:List aS)(Γ:dK)(yF yG:List aS->dK->dt):dt:=match gd with
 |none=>yF env Γ
 |some (a,b)=>match n9 m env Γ a with
  |none=>bad "guard"
  |some s=>match s with
   |.v (.aR [])=>yG env Γ
   |s=>s.jj fo (uJ (yA m a .kz env) λenv=>pU (wF a .kz Γ) λΓ=>(match b with|true=>yF env Γ|false=>yG env Γ)) (uJ (yA m a .lB env) λenv=>pU (wF a .lB Γ) λΓ=>(match b with|true=>yG env Γ|false=>yF env Γ))
variable (inR:Bool) (call:aW)
def Bk(pl:ld)(key m:Nat)(env:List aS)(Γ:dK)(loc:List (Nat×Acc))(o:Oper)(d:List cb)(q:bU)(h:ab)(K:List aS->dK->rR)(cj:dK->rS):dt:=match o.op with
 |.pick c a b=>match n9 m env Γ (da P need loc c) with
  |none=>bad "pick"
  |some s=>s.jj (EA (wG (2000+key) pl)) (uJ (yA m (da P need loc c) .kz env) λgk=>pU (wF (da P need loc c) .kz Γ) λcD=>(mY P need m env Γ loc a).n_ λx=>K gk cD x d q h) (uJ (yA m (da P need loc c) .lB env) λgk=>pU (wF (da P need loc c) .lB Γ) λcD=>(mY P need m env Γ loc b).n_ λx=>K gk cD x d q h)
 |_=>Ig P inR call (wG key pl) o (mY P need m env Γ loc) d q h (K env Γ) (cj Γ)
def Bl(pl:ld)(jS:Nat):List Step->List aS->dK->List cb->bU->ab->(List aS->dK->List cb->bU->ab->dt)->(ad->dK->List cb->bU->ab->dt)->dt
 |[],env,Γ,d,q,h,K,_=>K env Γ d q h
 |s::rest,env,Γ,d,q,h,K,cj=>match EE P need s.m env Γ s.loc s.o with
  |false=>bad ("an operand " ++s.o.pos)
  |true=>EF (EA (wG (1000+keyOf jS s.m s.o) pl)) s.guard s.m env Γ
   (λenv Γ=>Bk P need inR call pl (keyOf jS s.m s.o) s.m env Γ s.loc s.o d q h (λenv Γ v d q h=>Bl pl jS rest (v::env) Γ d q h K cj) (λΓ v d q h=>cj v Γ d q h))
   (λenv Γ=>Bl pl jS rest (.v (.aR [])::env) Γ d q h K cj)
def wP(t:Nat):dK->dK
 |[]=>[]
 |(u,s)::l=>match Nat.beq t u with
  |true=>wP t l
  |false=>(u,s)::wP t l
def wQ(m:Nat)(env:List aS)(hF:dK):List (Nat×Acc)->dK->dK
 |[],Γ=>Γ
 |(t,a)::l,Γ=>match Nat.testBit need t with
  |true=>match n9 m env hF a with
   |some s=>(t,s)::wP t (wQ m env hF l Γ)
   |none=>wP t (wQ m env hF l Γ)
  |false=>wQ m env hF l Γ
def Bm:List (Nat×Acc)->dK->dK
 |[],Γ=>Γ
 |(t,_)::l,Γ=>wP t (Bm l Γ)
abbrev o5:=List (Nat×Nat×ab×Nat)
def jT:o5->pP
 |[]=>[]
 |(e,m,h,_)::l=>(e,m,h)::jT l
def EG(o:Oper)(g:Operand->aS):Bool:=match o.op with
 |.move _|.assign _|.pick .. |.build .. |.nilCheck _|.makeInterface .. |.makeFunc .. |.fieldAddr .. |.field .. |.indexAddr .. |.index .. |.extract .. |.typeAssert .. =>true
 |.unOp .. =>true
 |.binOp _ _ x y _=>match g x,g y with
  |.v (.int _ _),.v (.int _ _)=>true
  |.v (.str _),.v (.str _)=>true
  |x,y=>x.wB&&y.wB
 |.call c=>match c.callee with
  |.builtin .len=>match c.argTypes[0]? with
   |some t=>match P.underlying t with
    |some (.slice _)=>true
    |some .string=>true
    |_=>false
   |none=>false
  |_=>false
 |_=>false
def yH:List aS->dt->dt
 |[],K=>K
 |.o a::l,K=>hj (a.sound=true) (yH l K)
 |s::l,K=>match s.den.sound with
  |true=>yH l K
  |false=>bad "sound"
def Il:aS->dt->dt
 |.o a,K=>hj (a.sound=true) K
 |.kz,K|.lB,K|.lt _ _,K|.le _ _,K|.eq _ _,K|.b9 _,K=>K
 |.v a,K=>match a.sound with
  |true=>K
  |false=>bad "sound"
 |.kA l,K=>yH l K
 |.eQ l,K=>match k_ (aS.cq l) with
  |true=>K
  |false=>bad "sound"
def yI(s:DStep)(h5:Nat):Option Nat->ab->Nat->o5->List (Option ab)
 |er,h,cV,bu=>
  (match sY s er (jT bu) with
   |true=>[]
   |false=>[match Nat.beq cV h5 with|true=>none|false=>some h])++
  (match bu with
   |[]=>[]
   |(e,_,aw,mZ)::rest=>yI s h5 (some e) aw mZ rest)
def yJ(o:Oper)(g:Operand->ad)(v:ad)(uL:Bool):List (Option ab)->dt->dt
 |[],K=>K
 |none::l,K=>yJ o g v uL l K
 |some h::l,K=>match uL with
  |true=>yJ o g v uL l K
  |false=>hj (qG P o g h v) (yJ o g v uL l K)
def nt(ops:Array Oper)(n:Nat)(env:List aS)(eB:List Nat)(Γ:dK)(last:Option Nat)(h:ab)(cV:Nat)(bu:o5):List DStep->dt->dt
 |[],K=>K
 |s::rest,K=>match Nat.blt s.i n,kindOf P s.o.op with
  |true,.pure=>match wD (n-1-s.i) env,nth (n-1-s.i) eB with
   |some v,some h5=>match yI s h5 last h cV bu with
    |[]=>nt ops n env eB Γ last h cV bu rest K
    |l=>match v with
     |.v (.aR [])=>match k6 P need ops s.loc s.o with
      |some (a,b)=>match n9 n env Γ a with
       |some (.v (.aR []))=>nt ops n env eB Γ last h cV bu rest K
       |some .kz=>match b with
        |false=>nt ops n env eB Γ last h cV bu rest K
        |true=>bad "look"
       |some .lB=>match b with
        |true=>nt ops n env eB Γ last h cV bu rest K
        |false=>bad "look"
       |_=>bad "look"
      |none=>bad "look"
     |v=>Il v (yJ P s.o (λx=>(mY P need n env Γ s.loc x).den) v.den (EG P s.o (mY P need n env Γ s.loc)) l (nt ops n env eB Γ last h cV bu rest K))
   |_,_=>bad "look"
  |_,_=>nt ops n env eB Γ last h cV bu rest K
def Im(op:Op)(g:Operand->aS)(b:Nat)(K:aS->dQ->dt):dt:=match op with
 |.box e x=>(g x).n_ λs=>yB s (K (.v (.ptr b 0)) (.cells (wH s) e .own 0 0))
 |.makeSlice t l c=>match fe (g l).den with
  |some nW=>hS λz:dQ=>hj (N7 P t (g l).den (g c).den b=some (.slice b 0 nW (match fe (g c).den with|some c'=>.exact c'|none=>.dead),z)) (K (.v (.slice b 0 nW (match fe (g c).den with|some c'=>.exact c'|none=>.dead))) z)
  |none=>bad "makeSlice"
 |.buildSlice t len parts=>match(pV (parts.toList.map λp=>(p.1,g p.2))).any aS.Ic with
  |true=>EB P t len (parts.toList.map λp=>(p.1,g p.2)) λe cs=>K (.v (.slice b 0 len (.exact len))) (.cells (aS.cq cs) e .own 0 0)
  |false=>match lN P (.buildSlice t len parts) (λx=>(g x).den) b with
   |some (v,o)=>K (.v v) o
   |none=>bad "alloc"
 |op=>match lN P op (λx=>(g x).den) b with
  |some (v,o)=>K (.v v) o
  |none=>bad "alloc"
abbrev uM:=List aS->List Nat->dK->List cb->bU->ab->Nat->o5->dt
def uN(pl:ld)(jS:Nat)(ops:Array Oper)(c2:Nat):List DStep->List aS->List Nat->dK->List cb->bU->ab->Nat->o5->uM->(ad->uM)->dt
 |[],env,eB,Γ,d,q,h,cV,bu,K,_=>K env eB Γ d q h cV bu
 |s::rest,env,eB,Γ,d,q,h,cV,bu,K,cj=>match EE P need s.i env Γ s.loc s.o with
  |false=>bad ("an operand " ++s.o.pos)
  |true=>EF (EA (wG (1000+keyOf jS s.i s.o) pl)) (k6 P need ops s.loc s.o) s.i env Γ
   (λenv Γ=>match kindOf P s.o.op with
    |.alloc=>Im P s.o.op (mY P need s.i env Γ s.loc) (c2+s.i) λv o=>uN pl jS ops c2 rest (v::env) (cV::eB) Γ d q (h.set (c2+s.i) (some o)) (cV+1) bu K cj
    |.pure=>Bk P need inR call pl (keyOf jS s.i s.o) s.i env Γ s.loc s.o d q h (λenv Γ v _ _ _=>uN pl jS ops c2 rest (v::env) (cV::eB) Γ d q h cV bu K cj) (λ_ _ _ _ _=>bad "a panic")
    |.e3=>match wm s (jT bu) with
     |false=>bad "order"
     |true=>Bk P need inR call pl (keyOf jS s.i s.o) s.i env Γ s.loc s.o d q h (λenv Γ v d' br aw=>uN pl jS ops c2 rest (v::env) (cV::eB) Γ d' br aw (cV+1) ((s.i,s.fV,h,cV)::bu) K cj)
      (λΓ v d' br aw=>match rest.all (λs'=>Nat.testBit s'.fV s.i) with
       |true=>cj v env eB Γ d' br aw (cV+1) ((s.i,s.fV,h,cV)::bu)
       |false=>bad "panic"))
   (λenv Γ=>match kindOf P s.o.op with
    |.e3=>match wm s (jT bu) with
     |false=>bad "order"
     |true=>uN pl jS ops c2 rest (.v (.aR [])::env) (cV::eB) Γ d q h cV ((s.i,s.fV,h,cV)::bu) K cj
    |_=>uN pl jS ops c2 rest (.v (.aR [])::env) (cV::eB) Γ d q h cV bu K cj)
end
section
variable {P:Program} {need:Nat} {inR:Bool} {call:aW}
theorem Io{m:Nat}{env:List aS}{Γ:dK}{loc:List (Nat×Acc)}{x:Operand}:(mY P need m env Γ loc x).den=(im m (aS.cq env) (du Γ) (da P need loc x)).getD .bad:=by
 rw[<-yC]
 unfold mY
 split<;>rename_i h<;>rw[h]<;>rfl
theorem OT{m:Nat}{env:List aS}{Γ:dK}{loc:List (Nat×Acc)}{o:Oper}(h:EE P need m env Γ loc o=true):∀x∈o.op.operands,(im m (aS.cq env) (du Γ) (da P need loc x)).isSome=true:=by
 intro x aa
 unfold EE at h
 rw[List.all_eq_true] at h
 have:=h x (by simpa using aa)
 rw[<-yC,Option.isSome_map];exact this
theorem Ip{r:ba}{G:Env}(hm:Mod r G){m:Nat}{l:List ad}{loc:List (Nat×Acc)}{o:Oper}(h:∀x∈o.op.operands,(im m l G (da P need loc x)).isSome=true):∀x∈o.op.operands,ep m l r (da P need loc x)=(im m l G (da P need loc x)).getD .bad:=by
 intro x aa
 obtain⟨v,aI⟩:=Option.isSome_iff_exists.1 (h x aa)
 rw[yD hm aI,aI];rfl
def qM(m:Nat)(l:List ad)(G:Env)(gd:Option (Acc×Bool))(W:Bool):Prop:=match gd with
 |none=>W=true
 |some (a,b)=>∃kB,im m l G a=some kB/\fg (some (kB,b))=some W
theorem qM.ok{m:Nat}{l:List ad}{G:Env}{gd:Option (Acc×Bool)}{W:Bool}(h:qM m l G gd W){r:ba}(hm:Mod r G):fg (gd.map λx=>(ep m l r x.1,x.2))=some W:=by
 cases gd with
 |none=>cases h;rfl
 |some x=>
  obtain⟨kB,I,ae⟩:=h
  simp only[Option.map_some,yD hm I,ae]
theorem qM.more{m:Nat}{l:List ad}{G:Env}{gd:Option (Acc×Bool)}{W:Bool}(h:qM m l G gd W)(x:ad):qM (m+1) (x::l) G gd W:=by
 cases gd with
 |none=>exact h
 |some y=>
  obtain⟨kB,I,ae⟩:=h
  exact⟨kB,Bi x I,ae⟩
theorem OU{fo:Option Bool}{gd:Option (Acc×Bool)}{m:Nat}{env:List aS}{Γ:dK}{yF yG:List aS->dK->dt}(h:(EF fo gd m env Γ yF yG).p):
  ∃gk cD,aS.cq gk=aS.cq env/\du cD=du Γ/\gk.length=env.length/\(((yF gk cD).p/\qM m (aS.cq env) (du Γ) gd true)\/((yG gk cD).p/\qM m (aS.cq env) (du Γ) gd false)):=by
 unfold EF at h
 split at h
 · exact⟨env,Γ,rfl,rfl,rfl,.inl ⟨h,rfl⟩⟩
 · rename_i a b
   split at h
   · cases h
   · rename_i s al
     have lz:im m (aS.cq env) (du Γ) a=some s.den:=by rw[<-yC,al];rfl
     split at h
     · exact⟨env,Γ,rfl,rfl,rfl,.inr ⟨h,_,lz,rfl⟩⟩
     · obtain⟨ag,aa⟩:=ED _ h
       have ai:=aS.rT ag
       rcases aa with⟨bm,ay⟩|⟨bm,ay⟩
       · rw[bm] at ai
         obtain⟨aG,aE,bH⟩:=yE (x:=.kz) al ai
         refine⟨_,_,aG,aE,bH,?_⟩
         have ay:=qL (wL ay)
         cases b with
         |true=>exact .inl ⟨ay,_,lz,by rw[ai];rfl⟩
         |false=>exact .inr ⟨ay,_,lz,by rw[ai];rfl⟩
       · rw[bm] at ai
         obtain⟨aG,aE,bH⟩:=yE (x:=.lB) al ai
         refine⟨_,_,aG,aE,bH,?_⟩
         have ay:=qL (wL ay)
         cases b with
         |true=>exact .inr ⟨ay,_,lz,by rw[ai];rfl⟩
         |false=>exact .inl ⟨ay,_,lz,by rw[ai];rfl⟩
theorem Iq{pl:ld}{key m:Nat}{env:List aS}{Γ:dK}{loc:List (Nat×Acc)}{o:Oper}{d:List cb}{q:bU}{h:ab}{K:List aS->dK->rR}{cj:dK->rS}(aa:(Bk P need inR call pl key m env Γ loc o d q h K cj).p):
  ∃gk cD,aS.cq gk=aS.cq env/\du cD=du Γ/\gk.length=env.length/\jA (eI P inR call none o (λx=>(im m (aS.cq env) (du Γ) (da P need loc x)).getD .bad) d q h) (K gk cD) (cj cD):=by
 have ar:(λx=>(im m (aS.cq env) (du Γ) (da P need loc x)).getD .bad)=λx=>(mY P need m env Γ loc x).den:=funext λx=>Io.symm
 unfold Bk at aa
 split at aa
 · rename_i c a b bc
   split at aa
   · cases aa
   · rename_i s al
     obtain⟨ag,aZ⟩:=ED _ aa
     have ai:=aS.rT ag
     have Ej:(mY P need m env Γ loc c).den=s.den:=by unfold mY;rw[al]
     rw[ar]
     rcases aZ with⟨bm,ay⟩|⟨bm,ay⟩
     · rw[bm] at ai
       obtain⟨aG,aE,bH⟩:=yE (x:=.kz) al ai
       exact⟨_,_,aG,aE,bH,jA.val (s:=mY P need m env Γ loc a) (by simp only[c7,bc,Ej,ai]) (aS.oc (qL (wL ay)))⟩
     · rw[bm] at ai
       obtain⟨aG,aE,bH⟩:=yE (x:=.lB) al ai
       exact⟨_,_,aG,aE,bH,jA.val (s:=mY P need m env Γ loc b) (by simp only[c7,bc,Ej,ai]) (aS.oc (qL (wL ay)))⟩
 · rw[ar]
   exact⟨env,Γ,rfl,rfl,rfl,XU aa⟩
theorem Ir{r:ba}{s:Step}{rest:List Step}{env:List ad}{d:List cb}{q:bU}{h:ab}:jI P need inR call r (s::rest) env d q h=match eI P inR call (s.guard.map λx=>(ep s.m env r x.1,x.2)) s.o (λx=>ep s.m env r (da P need s.loc x)) d q h with
  |.ok v d' br aw=>jI P need inR call r rest (v::env) d' br aw
  |.cw v d' br aw=>.cw v d' br aw
  |.fail w=>.fail w:=by
 obtain⟨gd,o,loc,m⟩:=s
 cases gd<;>rfl
theorem Is{pl:ld}{jS:Nat}:∀(l:List Step) (env:List aS) (Γ:dK) (d:List cb) (q:bU) (h:ab) {K:List aS->dK->List cb->bU->ab->dt} {cj:ad->dK->List cb->bU->ab->dt},(Bl P need inR call pl jS l env Γ d q h K cj).p->
  (∃gk cD d' br aw,(∀r,Mod r (du Γ)->jI P need inR call r l (aS.cq env) d q h=.ok (aS.cq gk) d' br aw)/\du cD=du Γ/\(K gk cD d' br aw).p)\/∃v cD d' br aw,(∀r,Mod r (du Γ)->jI P need inR call r l (aS.cq env) d q h=.cw v d' br aw)/\du cD=du Γ/\(cj v cD d' br aw).p
 |[],env,Γ,d,q,h,K,cj,aa=>.inl ⟨env,Γ,d,q,h,λ_ _=>rfl,rfl,aa⟩
 |s::rest,env,Γ,d,q,h,K,cj,aa=>by
  simp only[Bl] at aa
  split at aa
  · cases aa
  · rename_i ay
    have kb:∀r,Mod r (du Γ)->∀gd,eI P inR call gd s.o (λx=>ep s.m (aS.cq env) r (da P need s.loc x)) d q h=eI P inR call gd s.o (λx=>(im s.m (aS.cq env) (du Γ) (da P need s.loc x)).getD .bad) d q h:=λr hm gd=>we (Ip hm (OT ay))
    obtain⟨pW,iC,aG,aE,bH,hw⟩:=OU aa
    rcases hw with⟨hw,rU⟩|⟨hw,rU⟩
    · obtain⟨qN,Γ2,f1,f2,f3,bc⟩:=Iq hw
      rw[aG,aE] at bc
      rcases bc with⟨x,d1,a8,I,he,dg⟩|⟨v,d1,a8,I,he,dg⟩
      · have bl:=Is rest (x::qN) Γ2 d1 a8 I dg
        have key:∀r,Mod r (du Γ)->jI P need inR call r (s::rest) (aS.cq env) d q h=jI P need inR call r rest (aS.cq (x::qN)) d1 a8 I:=λr hm=>by
         rw[Ir,kb r hm,yp (rU.ok hm),he]
         simp only[aS.cq,f1,aG]
        rw[f2,aE] at bl
        rcases bl with⟨gk,cD,d',br,aw,i1,i2,i3⟩|⟨v,cD,d',br,aw,i1,i2,i3⟩
        · exact .inl ⟨gk,cD,d',br,aw,λr hm=>(key r hm).trans (i1 r hm),i2,i3⟩
        · exact .inr ⟨v,cD,d',br,aw,λr hm=>(key r hm).trans (i1 r hm),i2,i3⟩
      · refine .inr ⟨v,Γ2,d1,a8,I,λr hm=>?_,f2.trans aE,dg⟩
        rw[Ir,kb r hm,yp (rU.ok hm),he]
    · have bl:=Is rest (.v (.aR [])::pW) iC d q h hw
      have key:∀r,Mod r (du Γ)->jI P need inR call r (s::rest) (aS.cq env) d q h=jI P need inR call r rest (aS.cq (.v (.aR [])::pW)) d q h:=λr hm=>by
       rw[Ir,A8 (rU.ok hm)]
       simp only[aS.cq,aS.den,aG]
      rw[aE] at bl
      rcases bl with⟨gk,cD,d',br,aw,i1,i2,i3⟩|⟨v,cD,d',br,aw,i1,i2,i3⟩
      · exact .inl ⟨gk,cD,d',br,aw,λr hm=>(key r hm).trans (i1 r hm),i2,i3⟩
      · exact .inr ⟨v,cD,d',br,aw,λr hm=>(key r hm).trans (i1 r hm),i2,i3⟩
theorem Bn(t:Nat):∀Γ:dK,du (wP t Γ)=del t (du Γ)
 |[]=>rfl
 |(u,s)::l=>by
  simp only[wP,du,del]
  cases Nat.beq t u with
  |true=>exact Bn t l
  |false=>simp only[du];rw[Bn t l]
theorem It{m:Nat}{env:List aS}{gE:ba}{hF:dK}(hm:Mod gE (du hF)):∀(l:List (Nat×Acc)) (r:ba) (Γ:dK),Mod r (du Γ)->Mod (rr need m (aS.cq env) gE l r) (du (wQ need m env hF l Γ))
 |[],r,Γ,h=>h
 |(t,a)::l,r,Γ,h=>by
  have bl:=It (m:=m) (env:=env) hm l r Γ h
  simp only[rr,wQ]
  cases Nat.testBit need t with
  |false=>exact bl
  |true=>
   cases ar:n9 m env hF a with
   |some s=>
    have:im m (aS.cq env) (du hF) a=some s.den:=by rw[<-yC,ar];rfl
    simp only[du,Bn]
    rw[yD hm this];exact bl.put t s.den
   |none=>simp only[Bn];exact bl.del t _
theorem Iu:∀(l:List (Nat×Acc)) (r:ba) (Γ:dK),Mod r (du Γ)->Mod (xP l r) (du (Bm l Γ))
 |[],r,Γ,h=>h
 |(t,a)::l,r,Γ,h=>by simp only[Bm,Bn];exact(Iu l r Γ h).del t _
theorem OV:∀(ops:List Oper) (n:Nat) (loc:List (Nat×Acc)) (hM:List Nat) (k:Nat) (s:DStep),(f_ ops n loc hM)[k]? =some s->s.i=n+k
 |[],n,loc,hM,k,s,h=>by simp[f_] at h
 |o::l,n,loc,hM,0,s,h=>by simp only[f_,List.getElem?_cons_zero,Option.some.injEq] at h;rw[<-h];rfl
 |o::l,n,loc,hM,k+1,s,h=>by
  simp only[f_,List.getElem?_cons_succ] at h
  have:=OV l (n+1) _ _ k s h
  omega
def yK(P:Program)(need:Nat)(ops:Array Oper)(s:DStep)(n:Nat)(l:List ad)(G:Env)(eB:List Nat)(H:Nat->ab):Prop:=s.i<n/\(kindOf P s.o.op=.pure->(∀x∈s.o.op.operands,(im n l G (da P need s.loc x)).isSome=true)/\∀v h5,nth (n-1-s.i) l=some v->nth (n-1-s.i) eB=some h5->qM n l G (k6 P need ops s.loc s.o) false\/(qM n l G (k6 P need ops s.loc s.o) true/\∃aw,c7 P s.o (λx=>(im n l G (da P need s.loc x)).getD .bad) (H h5)=.val v aw))
theorem XV{α:Type}{n i:Nat}(h:i<n)(x:α)(l:List α):nth (n+1-1-i) (x::l)=nth (n-1-i) l:=by
 have:n+1-1-i=(n-1-i)+1:=by omega
 rw[this];rfl
theorem OW{α:Type}:∀(n:Nat) (l:List α) (x:α),nth n l=some x->x∈l
 |0,[],_,h=>by cases h
 |_+1,[],_,h=>by cases h
 |0,y::l,x,h=>by cases h;exact List.mem_cons_self
 |n+1,y::l,x,h=>List.mem_cons_of_mem _ (OW n l x h)
theorem yK.more{ops:Array Oper}{s:DStep}{n:Nat}{l:List ad}{G:Env}{eB:List Nat}{H a6:Nat->ab}(h:yK P need ops s n l G eB H)(x:ad)(y:Nat)(cy:∀h5∈eB,a6 h5=H h5):yK P need ops s (n+1) (x::l) G (y::eB) a6:=by
 obtain⟨I,ae⟩:=h
 refine⟨by omega,λay=>?_⟩
 obtain⟨bG,b0⟩:=ae ay
 refine⟨λz a7=>?_,λv h5 aI od=>?_⟩
 · obtain⟨w,hw⟩:=Option.isSome_iff_exists.1 (bG z a7)
   rw[Bi x hw];rfl
 · rw[XV I] at aI od
   rcases b0 v h5 aI od with e|⟨c6,aw,e⟩
   · exact .inl (e.more x)
   · have XW:=OW _ _ _ od
     refine .inr ⟨c6.more x,aw,?_⟩
     rw[cy h5 XW,<-e]
     exact AQ s.o _ λz a7=>by
      obtain⟨w,hw⟩:=Option.isSome_iff_exists.1 (bG z a7)
      rw[Bi x hw,hw]
end
section
variable {P:Program} {need:Nat} {inR:Bool} {call:aW}
theorem EH:∀l:List aS,(aS.cq l).length=l.length
 |[]=>rfl
 |_::l=>by simp only[aS.cq,List.length_cons,EH l]
structure o6(P:Program)(need:Nat)(ops:Array Oper)(pre:List DStep)(env:List aS)(eB:List Nat)(Γ:dK)(h:ab)(cV:Nat)(bu:o5)(H:Nat->ab):Prop where
 cur:H cV=h
 le:∀h5∈eB,h5<=cV
 st:∀z∈bu,z.2.2.2<=cV/\H z.2.2.2=z.2.2.1
 pl:pre.length=env.length
 seen:∀s∈pre,yK P need ops s env.length (aS.cq env) (du Γ) eB H
theorem o6.push{ops:Array Oper}{pre:List DStep}{env gk:List aS}{eB:List Nat}{Γ cD:dK}{h aw:ab}{cV mZ:Nat}{bu uO:o5}{H a6:Nat->ab}(w:o6 P need ops pre env eB Γ h cV bu H){s:DStep}{v:aS}(hi:s.i=env.length)(aG:aS.cq gk=aS.cq env)(aE:du cD=du Γ)(bH:gk.length=env.length)
  (cy:∀k,k<=cV->a6 k=H k)(aI:cV<=mZ)(ah:a6 mZ=aw)(al:∀z∈uO,z.2.2.2<=mZ/\a6 z.2.2.2=z.2.2.1)
  (a0:kindOf P s.o.op=.pure->(∀x∈s.o.op.operands,(im s.i (aS.cq env) (du Γ) (da P need s.loc x)).isSome=true)/\(qM s.i (aS.cq env) (du Γ) (k6 P need ops s.loc s.o) false\/(qM s.i (aS.cq env) (du Γ) (k6 P need ops s.loc s.o) true/\∃lZ,c7 P s.o (λx=>(im s.i (aS.cq env) (du Γ) (da P need s.loc x)).getD .bad) h=.val v.den lZ))):
  o6 P need ops (pre++[s]) (v::gk) (cV::eB) cD aw mZ uO a6:=by
 refine⟨ah,λh5 od=>?_,al,by simp[w.pl,bH],λz a7=>?_⟩
 · rcases List.mem_cons.1 od with rfl|od
   · exact aI
   · exact Nat.le_trans (w.le h5 od) aI
 · rw[List.length_cons,bH,aE]
   simp only[aS.cq,aG]
   rcases List.mem_append.1 a7 with a7|a7
   · exact(w.seen z a7).more _ _ λh5 od=>cy h5 (w.le h5 od)
   · obtain rfl:z=s:=by simpa using a7
     refine⟨by omega,λay=>?_⟩
     obtain⟨bG,b0⟩:=a0 ay
     rw[hi] at bG b0
     refine⟨λx aa=>?_,λu h5 hu od=>?_⟩
     · obtain⟨y,aZ⟩:=Option.isSome_iff_exists.1 (bG x aa)
       rw[Bi _ aZ];rfl
     · have h0:env.length+1-1-z.i=0:=by omega
       rw[h0] at hu od
       cases hu;cases od
       rcases b0 with b0|⟨jy,lZ,b0⟩
       · exact .inl (b0.more _)
       · refine .inr ⟨jy.more _,lZ,?_⟩
         rw[cy cV (Nat.le_refl _),w.cur,<-b0]
         exact AQ _ _ λx aa=>by
          obtain⟨y,aZ⟩:=Option.isSome_iff_exists.1 (bG x aa)
          rw[Bi _ aZ,aZ]
theorem Bo{ops:Array Oper}{r:ba}{n:Nat}{env:List ad}{s:DStep}:h1 P need ops r n env s=(k6 P need ops s.loc s.o).map λx=>(ep n env r x.1,x.2):=by
 unfold h1
 cases k6 P need ops s.loc s.o<;>rfl
def OX:ia->Prop
 |.val _ _=>True
 |.cw _ _=>True
 |.fail _=>True
 |_=>False
theorem XX{o:Oper}{g:Operand->ad}{H:ab}(ay:kindOf P o.op=.pure):OX (c7 P o g H):=by
 have h4:∀(w:String) (x:Option ad),OX (gL H w x):=λw x=>by cases x<;>trivial
 obtain⟨dst,op,type,pos,after,guard⟩:=o
 cases op<;>simp only[kindOf] at ay<;>(try (cases ay;done))<;>unfold c7<;>simp only
 case binOp=>exact h4 _ _
 case slice=>exact h4 _ _
 case lookup=>exact h4 _ _
 case convert s d x=>
  have dr:∀e,P.underlying d≠some (.slice e):=λe he=>by rw[he] at ay;cases ay
  unfold hp
  repeat' (first|trivial|exact absurd (by assumption) (dr _)|split)
 case call c=>
  cases ah:c.callee with
  |value f=>rw[ah] at ay;cases ay
  |invoke r n=>rw[ah] at ay;cases ay
  |builtin b=>
   rw[ah] at ay
   cases b<;>simp only at ay<;>(try (cases ay;done))<;>simp only[jH]<;>repeat' (first|trivial|exact h4 _ _|split)
 all_goals repeat' (first|trivial|exact h4 _ _|split)
theorem XY{o:Oper}{g:Operand->ad}{d d1:List cb}{q a8:bU}{h I:ab}{v:ad}(ay:kindOf P o.op=.pure)(e:eI P inR call none o g d q h=.ok v d1 a8 I):∃aw,c7 P o g h=.val v aw:=by
 have aI:=XX (P:=P) (g:=g) (H:=h) ay
 unfold eI at e
 simp only[fg] at e
 cases bc:c7 P o g h<;>rw[bc] at e aI<;>first|(exact aI.elim)|(cases e;done)|(cases e;exact⟨_,rfl⟩)
theorem XZ{op:Op}{g:Operand->aS}{b:Nat}{K:aS->dQ->dt}(h:(Im P op g b K).p):∃s o,lN P op (λx=>(g x).den) b=some (aS.den s,o)/\(K s o).p:=by
 unfold Im at h
 split at h
 · rename_i e x
   obtain⟨aG,aE,k⟩:=Ij (aS.oc h)
   exact⟨_,_,by simp only[lN,aG,aE];rfl,k⟩
 · rename_i t l c
   split at h
   · obtain⟨z,a7,k⟩:=h
     exact⟨_,_,N9 (op:=.makeSlice t l c) (v:=aS.den (.v _)) a7,k⟩
   · cases h
 · rename_i t len parts
   split at h
   · obtain⟨e,sz,z,cs,hu,al,a7,I,hf,ah,k⟩:=OQ h
     rw[OR] at hf
     exact⟨.v _,_,by simp only[lN,hu,al,a7,I,hf,ah];rfl,k⟩
   · split at h
     · rename_i v o aI
       exact⟨.v v,o,aI,h⟩
     · cases h
 · split at h
   · rename_i v o aI
     exact⟨.v v,o,aI,h⟩
   · cases h
def s7(H:Nat->ab)(k:Nat)(h:ab)(j:Nat):ab:=if j=k then h else H j
def rV(P:Program)(need:Nat)(inR:Bool)(call:aW)(ops:Array Oper)(c2:Nat)(full l:List DStep)(env:List aS)(G:Env)(d:List cb)(q:bU)(h:ab)(bu:o5)(K:uM)(cj:ad->uM):Prop:=
 (∃gk uP cD d' br aw mZ uO a6,(∀r,Mod r G->hq P need inR call ops r c2 l (aS.cq env) d q h (jT bu)=.ok (aS.cq gk) d' br aw (jT uO))/\du cD=G/\o6 P need ops full gk uP cD aw mZ uO a6/\(K gk uP cD d' br aw mZ uO).p)\/
 ∃v gk uP cD d' br aw mZ e m h0 yL uz a6 Bp,(∀r,Mod r G->hq P need inR call ops r c2 l (aS.cq env) d q h (jT bu)=.cw v (aS.cq gk) d' br aw (jT ((e,m,h0,yL)::uz)))/\du cD=G/\o6 P need ops Bp gk uP cD h0 yL uz a6/\(∃post,full=Bp++post)/\(cj v gk uP cD d' br aw mZ ((e,m,h0,yL)::uz)).p
theorem rV.trans{ops:Array Oper}{c2:Nat}{full l bw:List DStep}{env qN:List aS}{G:Env}{d d2:List cb}{q a2:bU}{h ae:ab}{bu OY:o5}{K:uM}{cj:ad->uM}(ay:∀r,Mod r G->hq P need inR call ops r c2 l (aS.cq env) d q h (jT bu)=hq P need inR call ops r c2 bw (aS.cq qN) d2 a2 ae (jT OY))(he:rV P need inR call ops c2 full bw qN G d2 a2 ae OY K cj):rV P need inR call ops c2 full l env G d q h bu K cj:=by
 rcases he with⟨cu,cU,dm,e0,ey,s8,s9,m0,Bq,bF,cJ,dh,e1⟩|⟨cu,cU,dm,e0,ey,s8,s9,m0,Bq,bn,bo,c9,fS,l0,kf,bF,cJ,dh,e1,m1⟩
 · exact .inl ⟨cu,cU,dm,e0,ey,s8,s9,m0,Bq,λr hm=>(ay r hm).trans (bF r hm),cJ,dh,e1⟩
 · exact .inr ⟨cu,cU,dm,e0,ey,s8,s9,m0,Bq,bn,bo,c9,fS,l0,kf,λr hm=>(ay r hm).trans (bF r hm),cJ,dh,e1,m1⟩
theorem wR{ops:Array Oper}{r:ba}{c2:Nat}{s:DStep}{rest:List DStep}{env:List ad}{d:List cb}{q:bU}{h:ab}{bu:pP}:hq P need inR call ops r c2 (s::rest) env d q h bu=
  match kindOf P s.o.op with
  |.alloc=>match fg (h1 P need ops r s.i env s) with
   |none=>.fail ""
   |some false=>hq P need inR call ops r c2 rest (.aR []::env) d q h bu
   |some true=>match lN P s.o.op (λx=>ep s.i env r (da P need s.loc x)) (c2+s.i) with
    |some (v,o)=>hq P need inR call ops r c2 rest (v::env) d q (h.set (c2+s.i) (some o)) bu
    |none=>.fail ""
  |.pure=>match eI P inR call (h1 P need ops r s.i env s) s.o (λx=>ep s.i env r (da P need s.loc x)) d q h with
   |.ok v _ _ _=>hq P need inR call ops r c2 rest (v::env) d q h bu
   |.cw _ _ _ _=>.fail ""
   |.fail w=>.fail w
  |.e3=>match wm s bu with
   |false=>.fail ""
   |true=>match eI P inR call (h1 P need ops r s.i env s) s.o (λx=>ep s.i env r (da P need s.loc x)) d q h with
    |.ok v d' br aw=>hq P need inR call ops r c2 rest (v::env) d' br aw ((s.i,s.fV,h)::bu)
    |.cw v d' br aw=>match rest.all (λs'=>Nat.testBit s'.fV s.i) with
     |true=>.cw v env d' br aw ((s.i,s.fV,h)::bu)
     |false=>.fail ""
    |.fail w=>.fail w:=by
 cases bu<;>rfl
theorem wS{pl:ld}{jS:Nat}{ops:Array Oper}{c2:Nat}{full:List DStep}(rW:∀(k:Nat) (s:DStep),full[k]? =some s->s.i=k){K:uM}{cj:ad->uM}:∀(l pre:List DStep) (env:List aS) (eB:List Nat) (Γ:dK) (d:List cb) (q:bU) (h:ab) (cV:Nat) (bu:o5) (H:Nat->ab),full=pre++l->o6 P need ops pre env eB Γ h cV bu H->(uN P need inR call pl jS ops c2 l env eB Γ d q h cV bu K cj).p->rV P need inR call ops c2 full l env (du Γ) d q h bu K cj
 |[],pre,env,eB,Γ,d,q,h,cV,bu,H,hf,w,aa=>by
  rw[List.append_nil] at hf
  subst hf
  exact .inl ⟨env,eB,Γ,d,q,h,cV,bu,H,λ_ _=>rfl,rfl,w,aa⟩
 |s::rest,pre,env,eB,Γ,d,q,h,cV,bu,H,hf,w,aa=>by
  have hi:s.i=env.length:=by
   rw[<-w.pl]
   exact rW pre.length s (by rw[hf];simp)
  have yM:full=(pre++[s])++rest:=by rw[hf];simp
  simp only[uN] at aa
  split at aa
  · cases aa
  · rename_i ay
    have wT:=OT ay
    have ar:∀r,Mod r (du Γ)->∀x∈s.o.op.operands,ep s.i (aS.cq env) r (da P need s.loc x)=(im s.i (aS.cq env) (du Γ) (da P need s.loc x)).getD .bad:=λr hm=>Ip hm wT
    have kb:∀r,Mod r (du Γ)->∀gd,eI P inR call gd s.o (λx=>ep s.i (aS.cq env) r (da P need s.loc x)) d q h=eI P inR call gd s.o (λx=>(im s.i (aS.cq env) (du Γ) (da P need s.loc x)).getD .bad) d q h:=λr hm gd=>we (ar r hm)
    obtain⟨pW,iC,aG,aE,bH,hw⟩:=OU aa
    have mi:∀z∈bu,z.2.2.2<=cV/\H z.2.2.2=z.2.2.1:=w.st
    rcases hw with⟨hw,rU⟩|⟨hw,rU⟩
    · have uQ:∀r,Mod r (du Γ)->fg (h1 P need ops r s.i (aS.cq env) s)=some true:=λr hm=>by rw[Bo];exact rU.ok hm
      split at hw
      · rename_i ik
        obtain⟨v,o,aV,dg⟩:=XZ hw
        have EI:lN P s.o.op (λx=>(im s.i (aS.cq env) (du Γ) (da P need s.loc x)).getD .bad) (c2+s.i)=some (v.den,o):=by
         rw[<-aV];congr 1;exact funext λx=>by rw[Io,aG,aE]
        have db:o6 P need ops (pre++[s]) (v::pW) (cV::eB) iC (h.set (c2+s.i) (some o)) (cV+1) bu (s7 H (cV+1) (h.set (c2+s.i) (some o))):=
         w.push hi aG aE bH (λk ay=>by unfold s7;rw[if_neg (by omega)]) (by omega) (by unfold s7;rw[if_pos rfl]) (λz a7=>by
          obtain⟨dS,gb⟩:=mi z a7
          exact⟨by omega,by unfold s7;rw[if_neg (by omega)];exact gb⟩) (λa0=>by rw[ik] at a0;cases a0)
        have bl:=wS rW rest (pre++[s]) (v::pW) (cV::eB) iC d q _ (cV+1) bu _ yM db dg
        rw[aE] at bl
        refine rV.trans (λr hm=>?_) bl
        rw[wR,ik]
        simp only[uQ r hm]
        rw[AR _ _ (ar r hm),EI]
        simp only[aS.cq,aG]
      · rename_i ik
        obtain⟨qN,Γ2,f1,f2,f3,bc⟩:=Iq hw
        rw[aG,aE] at bc
        rcases bc with⟨x,d1,a8,I,he,dg⟩|⟨v,d1,a8,I,he,dg⟩
        · have gu:=XY ik he
          have db:o6 P need ops (pre++[s]) (x::qN) (cV::eB) Γ2 h cV bu H:=
           w.push hi (f1.trans aG) (f2.trans aE) (f3.trans bH) (λk ay=>rfl) (Nat.le_refl _) w.cur mi (λ_=>⟨wT,.inr ⟨rU,gu⟩⟩)
          have bl:=wS rW rest (pre++[s]) (x::qN) (cV::eB) Γ2 d q h cV bu H yM db dg
          rw[f2,aE] at bl
          refine rV.trans (λr hm=>?_) bl
          rw[wR,ik]
          simp only
          rw[kb r hm,yp (uQ r hm),he]
          simp only[aS.cq,f1,aG]
        · cases dg
      · rename_i ik
        split at hw
        · cases hw
        · rename_i ni
          obtain⟨qN,Γ2,f1,f2,f3,bc⟩:=Iq hw
          rw[aG,aE] at bc
          rcases bc with⟨x,d1,a8,I,he,dg⟩|⟨v,d1,a8,I,he,dg⟩
          · have db:o6 P need ops (pre++[s]) (x::qN) (cV::eB) Γ2 I (cV+1) ((s.i,s.fV,h,cV)::bu) (s7 H (cV+1) I):=
              w.push hi (f1.trans aG) (f2.trans aE) (f3.trans bH) (λk ay=>by unfold s7;rw[if_neg (by omega)]) (by omega) (by unfold s7;rw[if_pos rfl]) (λz a7=>by
               rcases List.mem_cons.1 a7 with rfl|a7
               · exact⟨by simp,by unfold s7;rw[if_neg (by simp)];exact w.cur⟩
               · obtain⟨dS,gb⟩:=mi z a7
                 exact⟨by omega,by unfold s7;rw[if_neg (by omega)];exact gb⟩) (λa0=>by rw[ik] at a0;cases a0)
            have bl:=wS rW rest (pre++[s]) (x::qN) (cV::eB) Γ2 d1 a8 I (cV+1) _ _ yM db dg
            rw[f2,aE] at bl
            refine rV.trans (λr hm=>?_) bl
            rw[wR,ik]
            simp only[ni]
            rw[kb r hm,yp (uQ r hm),he]
            simp only[aS.cq,f1,aG,jT]
          · split at dg
            · rename_i eL
              refine .inr ⟨v,pW,eB,Γ2,d1,a8,I,cV+1,s.i,s.fV,h,cV,bu,H,pre,λr hm=>?_,f2.trans aE,?_,⟨_,hf⟩,dg⟩
              · rw[wR,ik]
                simp only[ni]
                rw[kb r hm,yp (uQ r hm),he]
                simp only[eL,jT,aG]
              · exact⟨w.cur,w.le,w.st,w.pl.trans bH.symm,by rw[f2,aE,aG,bH];exact w.seen⟩
            · cases dg
    · have uQ:∀r,Mod r (du Γ)->fg (h1 P need ops r s.i (aS.cq env) s)=some false:=λr hm=>by rw[Bo];exact rU.ok hm
      cases ik:kindOf P s.o.op with
      |e3=>
       rw[ik] at hw
       simp only at hw
       split at hw
       · cases hw
       · rename_i ni
         have db:o6 P need ops (pre++[s]) (.v (.aR [])::pW) (cV::eB) iC h cV ((s.i,s.fV,h,cV)::bu) H:=
          w.push hi aG aE bH (λk ay=>rfl) (Nat.le_refl _) w.cur (λz a7=>by
           rcases List.mem_cons.1 a7 with rfl|a7
           · exact⟨Nat.le_refl _,w.cur⟩
           · exact mi z a7) (λa0=>by rw[ik] at a0;cases a0)
         have bl:=wS rW rest (pre++[s]) (.v (.aR [])::pW) (cV::eB) iC d q h cV _ H yM db hw
         rw[aE] at bl
         refine rV.trans (λr hm=>?_) bl
         rw[wR,ik]
         simp only[ni]
         rw[A8 (uQ r hm)]
         simp only[aS.cq,aS.den,aG,jT]
      |alloc=>
       rw[ik] at hw
       simp only at hw
       have db:o6 P need ops (pre++[s]) (.v (.aR [])::pW) (cV::eB) iC h cV bu H:=
        w.push hi aG aE bH (λk ay=>rfl) (Nat.le_refl _) w.cur mi (λa0=>by rw[ik] at a0;cases a0)
       have bl:=wS rW rest (pre++[s]) (.v (.aR [])::pW) (cV::eB) iC d q h cV bu H yM db hw
       rw[aE] at bl
       refine rV.trans (λr hm=>?_) bl
       rw[wR,ik]
       simp only[uQ r hm]
       simp only[aS.cq,aS.den,aG]
      |pure=>
       rw[ik] at hw
       simp only at hw
       have db:o6 P need ops (pre++[s]) (.v (.aR [])::pW) (cV::eB) iC h cV bu H:=
        w.push hi aG aE bH (λk ay=>rfl) (Nat.le_refl _) w.cur mi (λ_=>⟨wT,.inl rU⟩)
       have bl:=wS rW rest (pre++[s]) (.v (.aR [])::pW) (cV::eB) iC d q h cV bu H yM db hw
       rw[aE] at bl
       refine rV.trans (λr hm=>?_) bl
       rw[wR,ik]
       simp only
       rw[A8 (uQ r hm)]
       simp only[aS.cq,aS.den,aG]
end
section
variable {P:Program} {need:Nat} {inR:Bool} {call:aW}
theorem X0{o:Oper}{g:Operand->aS}(aA:EG P o g=true){h I:ab}{v:ad}(e:c7 P o (λx=>(g x).den) h=.val v I)(aw:ab):∃ae,c7 P o (λx=>(g x).den) aw=.val v ae:=by
 have h4:∀{w:String} {x:Option ad},gL h w x=.val v I->∃ae,gL aw w x=.val v ae:=λ{w x} e=>by
  cases x with
  |none=>cases e
  |some y=>cases e;exact⟨_,rfl⟩
 obtain⟨dst,op,type,pos,after,guard⟩:=o
 cases op<;>simp only[EG] at aA<;>(try (cases aA;done))<;>unfold c7 at e⊢ <;>simp only at e⊢
 case binOp op t x y yt=>
  split at aA
  · rename_i k a cO b aa aZ
    rw[aa,aZ] at e⊢
    simp only[aS.den,ec] at e⊢
    exact h4 e
  · rename_i a b aa aZ
    rw[aa,aZ] at e⊢
    simp only[aS.den,ec] at e⊢
    exact h4 e
  · rw[Bool.and_eq_true] at aA
    rw[aS.rT aA.1,aS.rT aA.2] at e⊢
    have au:ec P aw op t x y (.bool (g x).ml) (.bool (g y).ml)=ec P h op t x y (.bool (g x).ml) (.bool (g y).ml):=by
     simp only[ec,gZ]
    rw[au];exact h4 e
 case call c=>
  split at aA
  · rename_i ah
    rw[ah] at e⊢
    simp only[jH] at e⊢
    split at aA
    · rename_i t bm
      rw[bm] at e⊢
      cases iQ:c.args.toList.map λx=>(g x).den with
      |nil=>rw[iQ] at e;cases e
      |cons x l=>
       rw[iQ] at e
       cases l with
       |nil=>
        simp only at e⊢
        split at aA
        · rename_i el hu
          simp only[bV,hu] at e⊢
          cases x<;>simp only at e⊢ <;>exact h4 e
        · rename_i hu
          simp only[bV,hu] at e⊢
          cases x<;>simp only at e⊢ <;>exact h4 e
        · cases aA
       |cons y l=>
        cases l with
        |nil=>simp only at e;cases e
        |cons z l=>simp only at e;cases e
    · cases aA
  · cases aA
 case typeAssert=>repeat' (first|contradiction|exact h4 e|(cases e;done)|(cases e;exact⟨_,rfl⟩)|(cases e;simp_all;done)|split at e)
 all_goals repeat' (first|contradiction|exact h4 e|(cases e;exact⟨_,rfl⟩)|(rw[if_pos (by assumption)];first|exact h4 e|(cases e;exact⟨_,rfl⟩))|(cases e;done)|split at e)
theorem OZ{K:dt}:∀(l:List aS),(yH l K).p->k_ (aS.cq l)=true/\K.p
 |[],h=>⟨rfl,h⟩
 |s::l,h=>by
  have key:s.den.sound=true/\(yH l K).p:=by
   cases s<;>simp only[yH] at h<;>first|exact h|(split at h<;>first|exact⟨by assumption,h⟩|cases h)
  obtain⟨bG,b0⟩:=OZ l key.2
  exact⟨by simp only[aS.cq,k_,key.1,bG,Bool.and_true],b0⟩
theorem O0{s:aS}{K:dt}(h:(Il s K).p):s.den.sound=true/\K.p:=by
 cases s<;>simp only[Il] at h<;>first|exact⟨rfl,h⟩|exact h|skip
 all_goals first
  |exact OZ _ h
  |(split at h
    · rename_i al;exact⟨al,h⟩
    · cases h)
theorem Br{o:Oper}{g:Operand->ad}{v:ad}{uL:Bool}{K:dt}:∀(l:List (Option ab)),(yJ P o g v uL l K).p->K.p/\(uL=false->∀h,some h∈l->qG P o g h v)
 |[],h=>⟨h,λ_ _ hm=>by cases hm⟩
 |none::l,h=>by
  obtain⟨I,ae⟩:=Br l h
  exact⟨I,λaH aw hm=>by
   rcases List.mem_cons.1 hm with e|hm
   · cases e
   · exact ae aH aw hm⟩
 |some x::l,h=>by
  simp only[yJ] at h
  cases uL with
  |true=>
   obtain⟨I,ae⟩:=Br l h
   exact⟨I,λaH=>by cases aH⟩
  |false=>
   obtain⟨h0,h⟩:=h
   obtain⟨I,ae⟩:=Br l h
   exact⟨I,λaH aw hm=>by
    rcases List.mem_cons.1 hm with e|hm
    · cases e;exact h0
    · exact ae aH aw hm⟩
theorem O1{ops:Array Oper}{r:ba}{n:Nat}{env:List ad}{s:DStep}{v:ad}{h5:Nat}{H:Nat->ab}:∀(bu:o5) (er:Option Nat) (h:ab) (cV:Nat),H cV=h->(∀z∈bu,H z.2.2.2=z.2.2.1)->(∀o∈yI s h5 er h cV bu,nM P need ops r n env s v (match o with|none=>H h5|some h=>h)=true)->mI P need ops r n env s v er h (jT bu)=true
 |[],er,h,cV,au,al,aA=>by
  simp only[jT]
  rw[Ek]
  simp only[yI] at aA
  cases ag:sY s er [] with
  |true=>rfl
  |false=>
   rw[show sY s er (jT [])=false from ag] at aA
   simp only[Bool.and_true]
   cases aI:Nat.beq cV h5 with
   |true=>
    have:=aA none (by rw[aI];simp)
    obtain rfl:=Nat.eq_of_beq_eq_true aI
    rw[<-au];exact this
   |false=>exact aA (some h) (by rw[aI];simp)
 |(e,m,aw,mZ)::rest,er,h,cV,au,al,aA=>by
  simp only[jT]
  rw[Ek]
  simp only[yI] at aA
  have bl:=O1 (ops:=ops) (r:=r) (n:=n) (env:=env) (v:=v) rest (some e) aw mZ (al _ List.mem_cons_self) (λz a7=>al z (List.mem_cons_of_mem _ a7)) λo bc=>aA o (List.mem_append.2 (.inr bc))
  simp only[]
  rw[bl,Bool.and_true]
  cases ag:sY s er ((e,m,aw)::jT rest) with
  |true=>rfl
  |false=>
   rw[show sY s er (jT ((e,m,aw,mZ)::rest))=false from ag] at aA
   simp only
   cases aI:Nat.beq cV h5 with
   |true=>
    have:=aA none (List.mem_append.2 (.inl (by rw[aI];simp)))
    obtain rfl:=Nat.eq_of_beq_eq_true aI
    rw[<-au];exact this
   |false=>exact aA (some h) (List.mem_append.2 (.inl (by rw[aI];simp)))
theorem Iv{ops:Array Oper}{r:ba}{n:Nat}{env:List aS}{eB:List Nat}{Γ:dK}(hm:Mod r (du Γ)){last:Option Nat}{h:ab}{cV:Nat}{bu:o5}{H:Nat->ab}(cy:H cV=h)(cL:∀z∈bu,H z.2.2.2=z.2.2.1){K:dt}:∀(l:List DStep),(∀s∈l,s.i<n->yK P need ops s n (aS.cq env) (du Γ) eB H)->(nt P need ops n env eB Γ last h cV bu l K).p->nd P need ops r n (aS.cq env) last h (jT bu) l=true
 |[],_,_=>rfl
 |s::rest,al,aa=>by
  simp only[nd]
  simp only[nt] at aa
  have Dd:=λ(k:(nt P need ops n env eB Γ last h cV bu rest K).p)=>Iv hm cy cL rest (λz a7=>al z (List.mem_cons_of_mem _ a7)) k
  split at aa
  · rename_i ag ik
    have hi:s.i<n:=by simpa using ag
    obtain⟨_,l1⟩:=al s List.mem_cons_self hi
    obtain⟨wT,nZ⟩:=l1 ik
    rw[ag,ik]
    simp only
    split at aa
    · rename_i v h5 aI od
      have O2:nth (n-1-s.i) (aS.cq env)=some v.den:=OJ _ _ _ aI
      rw[O2]
      simp only[Option.getD_some]
      have fin:∀(ay:(nt P need ops n env eB Γ last h cV bu rest K).p),(∀o∈yI s h5 last h cV bu,nM P need ops r n (aS.cq env) s v.den (match o with|none=>H h5|some h=>h)=true)->(mI P need ops r n (aS.cq env) s v.den last h (jT bu)&&nd P need ops r n (aS.cq env) last h (jT bu) rest)=true:=λay bc=>by
       rw[Dd ay,Bool.and_true]
       exact O1 bu last h cV cy cL bc
      split at aa
      · rename_i sQ
        exact fin aa λo bc=>by rw[sQ] at bc;cases bc
      · split at aa
        ·
         have Iw:fg (h1 P need ops r n (aS.cq env) s)=some false->∀aw,nM P need ops r n (aS.cq env) s (aS.den (.v (.aR []))) aw=true:=λhw aw=>by
          unfold nM;rw[hw]
         split at aa
         · rename_i a b wO
           have ai:∀(x:aS),n9 n env Γ a=some x->h1 P need ops r n (aS.cq env) s=some (x.den,b):=λx aa=>by
            have lz:im n (aS.cq env) (du Γ) a=some x.den:=by rw[<-yC,aa];rfl
            rw[Bo,wO]
            simp only[Option.map_some,yD hm lz]
           split at aa
           · rename_i wh
             exact fin aa λo _=>Iw (by rw[ai _ wh];rfl) _
           · rename_i wh
             cases b with
             |false=>exact fin aa λo _=>Iw (by rw[ai _ wh];rfl) _
             |true=>cases aa
           · rename_i wh
             cases b with
             |true=>exact fin aa λo _=>Iw (by rw[ai _ wh];rfl) _
             |false=>cases aa
           · cases aa
         · cases aa
        · rename_i dr
          obtain⟨fv,aa⟩:=O0 aa
          obtain⟨aa,X1⟩:=Br _ aa
          have hC:(λx=>(mY P need n env Γ s.loc x).den)=λx=>(im n (aS.cq env) (du Γ) (da P need s.loc x)).getD .bad:=funext λx=>Io
          refine fin aa λo bc=>?_
          rcases nZ v.den h5 O2 od with e|⟨c6,e⟩
          · have hw:fg (h1 P need ops r n (aS.cq env) s)=some false:=by rw[Bo];exact e.ok hm
            unfold nM;rw[hw]
          · have hw:fg (h1 P need ops r n (aS.cq env) s)=some true:=by rw[Bo];exact c6.ok hm
            have look:∀aw,(∃lZ,c7 P s.o (λx=>(mY P need n env Γ s.loc x).den) aw=.val v.den lZ)->nM P need ops r n (aS.cq env) s v.den aw=true:=λaw ⟨lZ,e⟩=>by
             have X2:c7 P s.o (λx=>ep n (aS.cq env) r (da P need s.loc x)) aw=.val v.den lZ:=by
              rw[<-e,hC]
              exact AQ s.o aw (Ip hm wT)
             unfold nM
             simp only[hw,X2]
             exact wv _ fv
            rw[<-hC] at e
            cases o with
            |none=>exact look _ e
            |some aw=>
             refine look aw ?_
             cases au:EG P s.o (mY P need n env Γ s.loc) with
             |true=>
              obtain⟨I,e⟩:=e
              exact X0 au e aw
             |false=>exact⟨aw,wu (X1 au aw bc)⟩
    · cases aa
  · rename_i lT
    have aa:=Dd aa
    rw[aa,Bool.and_true]
    cases ag:Nat.blt s.i n with
    |false=>rfl
    |true=>
     cases ay:kindOf P s.o.op with
     |pure=>exact absurd ay (lT ag)
     |alloc=>rfl
     |e3=>rfl
theorem Ix{ops:Array Oper}{n:Nat}{env:List aS}{eB:List Nat}{Γ:dK}{last:Option Nat}{h:ab}{cV:Nat}{bu:o5}{K:dt}:∀(l:List DStep),(nt P need ops n env eB Γ last h cV bu l K).p->K.p
 |[],aa=>aa
 |s::rest,aa=>by
  have bl:(nt P need ops n env eB Γ last h cV bu rest K).p->K.p:=λk=>Ix rest k
  simp only[nt] at aa
  split at aa
  · split at aa
    · split at aa
      · exact bl aa
      · split at aa
        · split at aa
          · split at aa
            · exact bl aa
            · split at aa
              · exact bl aa
              · cases aa
            · split at aa
              · exact bl aa
              · cases aa
            · cases aa
          · cases aa
        · exact bl (Br _ (O0 aa).2).1
    · cases aa
  · exact bl aa
def O3(P:Program)(need:Nat)(inR:Bool)(call:aW)(pl:ld)(jS:Nat)(ops:Array Oper)(Γ:dK)(d:List cb)(q:bU)(h:ab)(K:bW->dK->List cb->bU->ab->dt):dt:=
 uN P need inR call pl jS ops h.n (f_ ops.toList 0 [] []) [] [] Γ d q (h.room ops.size) 0 []
  (λenv eB Γ d q h cV bu=>nt P need ops env.length env eB Γ none h cV bu (f_ ops.toList 0 [] []) (pU (wQ need env.length env Γ (kq ops.toList 0 []) Γ) λΓ=>K .nrm Γ d q h))
  (λv env eB Γ d q h cV bu=>match bu with
   |(e,m,h0,yL)::bu=>nt P need ops env.length env eB Γ (some e) h0 yL bu (f_ ops.toList 0 [] []) (pU (Bm (kq ops.toList 0 []) Γ) λΓ=>K (.cw v) Γ d q h)
   |[]=>bad "a panic")
def Iy(P:Program)(need:Nat)(rd:Option Nat)(call:aW)(c:Code)(Γ:dK)(d:List cb)(q:bU)(h:ab)(K:bW->dK->List cb->bU->ab->dt):Prop:=∃e cD d' br aw,dA P need rd call c ⟨du Γ,d,q,h⟩ e ⟨du cD,d',br,aw⟩/\(K e cD d' br aw).p
theorem X3{rd:Option Nat}{pl:ld}{jS:Nat}{ops:Array Oper}{Γ:dK}{d:List cb}{q:bU}{h:ab}{K:bW->dK->List cb->bU->ab->dt}(aa:(O3 P need rd.isSome call pl jS ops Γ d q h K).p):Iy P need rd call (.region jS ops true) Γ d q h K:=by
 have rW:∀(k:Nat) (s:DStep),(f_ ops.toList 0 [] [])[k]? =some s->s.i=k:=λk s al=>by have:=OV _ _ _ _ _ _ al;omega
 have h3:o6 P need ops [] [] [] Γ (h.room ops.size) 0 [] (λ_=>h.room ops.size):=⟨rfl,λ_ hm=>(by cases hm),λ_ hm=>(by cases hm),rfl,λ_ hm=>(by cases hm)⟩
 rcases wS rW (f_ ops.toList 0 [] []) [] [] [] Γ d q (h.room ops.size) 0 [] _ rfl h3 aa with⟨gk,uP,cD,d',br,aw,mZ,uO,a6,bF,cJ,w,dg⟩|⟨v,gk,uP,cD,d',br,aw,mZ,e,m,h0,yL,uz,a6,Bp,bF,cJ,w,⟨post,a0⟩,dg⟩
 · refine⟨.nrm,_,d',br,aw,λr hm=>?_,qL (Ix _ dg)⟩
   have I:=bF r hm
   have ae:=Iv (r:=r) (by rw[cJ];exact hm) w.cur (λz a7=>(w.st z a7).2) _ (λs al _=>w.seen s al) dg
   refine⟨_,?_,It (by rw[cJ];exact hm) _ _ _ (by rw[cJ];exact hm)⟩
   have ij:hq P need rd.isSome call ops r h.n (f_ ops.toList 0 [] []) [] d q ⟨h.t,h.n+ops.size⟩ []=.ok (aS.cq gk) d' br aw (jT uO):=I
   simp only[et,vD,ij,EH,ae,oI]
 · refine⟨.cw v,_,d',br,aw,λr hm=>?_,qL (Ix _ dg)⟩
   have I:=bF r hm
   have X4:∀s∈f_ ops.toList 0 [] [],s.i<gk.length->yK P need ops s gk.length (aS.cq gk) (du cD) uP a6:=λs al hi=>by
    refine w.seen s ?_
    obtain⟨k,ay,rL⟩:=List.getElem_of_mem al
    have ajG:s.i=k:=rW k s (by rw[List.getElem?_eq_getElem ay,rL])
    have O4:k<Bp.length:=by rw[w.pl];omega
    have:(Bp++post)[k]? =some s:=by rw[<-a0,List.getElem?_eq_getElem ay,rL]
    rw[List.getElem?_append_left O4] at this
    exact List.mem_of_getElem? this
   have ae:=Iv (r:=r) (by rw[cJ];exact hm) w.cur (λz a7=>(w.st z a7).2) _ X4 dg
   refine⟨_,?_,Iu _ _ _ (by rw[cJ];exact hm)⟩
   have ij:hq P need rd.isSome call ops r h.n (f_ ops.toList 0 [] []) [] d q ⟨h.t,h.n+ops.size⟩ []=.cw v (aS.cq gk) d' br aw ((e,m,h0)::jT uz):=I
   simp only[et,vD,ij,EH,ae,oI]
end
abbrev wU:=bW->dK->List cb->bU->ab->dt
def EJ(P:Program):List (Nat×lY)->(dK->dt)->dt
 |[],K=>K []
 |(t,s)::l,K=>shape P 9 s λx=>EJ P l λΓ=>K ((t,x)::Γ)
def Iz(P:Program)(d:List cb)(q:bU)(K:wU)(b2:bW)(cc:bL):List (bW×List (Nat×lY))->dt
 |[]=>bad "loop"
 |[(e,rs)]=>EJ P rs λhF=>hS λg:ab=>hS λcD:Env=>hj (b2=e) (hj (cc=⟨cD,d,q,g⟩) (hj (bY (du hF) cD) (K e hF d q g)))
 |(e,rs)::l=>.mk ((EJ P rs λhF=>hS λg:ab=>hS λcD:Env=>hj (b2=e) (hj (cc=⟨cD,d,q,g⟩) (hj (bY (du hF) cD) (K e hF d q g)))).p\/(Iz P d q K b2 cc l).p)
def X5:Operand->Nat
 |.tmp t=>t
 |_=>999
def EK(P:Program)(call:aW)(fn:Func)(pl:ld)(g3:Nat)(path:List Nat)(Γ:dK)(d:List cb)(q:bU)(h:ab)(K:wU):dt:=match wG (4000+g3) pl with
 |some (.fj ins outs)=>.mk (bp P fn call path ⟨o0 (du Γ) ins,d,q,h⟩ λb2 cc=>(Iz P d q K b2 cc outs).p)
 |_=>bad "loop"
def o7(P:Program)(call:aW)(fn:Func)(need:Nat)(pl:ld):Code->Nat->List Nat->dK->List cb->bU->ab->wU->dt
 |.skip,_,_,Γ,d,q,h,K=>K .nrm Γ d q h
 |.label _,_,_,Γ,d,q,h,K=>K .nrm Γ d q h
 |.exit id,_,_,Γ,d,q,h,K=>K (.exit id) Γ d q h
 |.ret,_,_,Γ,d,q,h,K=>K .ret Γ d q h
 |.scope b,g3,p,Γ,d,q,h,K=>o7 P call fn need pl b g3 (p++[0]) Γ d q h K
 |.region id ops draw,_,_,Γ,d,q,h,K=>match draw with
  |false=>Bl P need false call pl id (rq P need ops).steps [] Γ d q h
   (λenv Γ d q h=>pU (wQ need env.length env Γ (rq P need ops).loc Γ) λΓ=>K .nrm Γ d q h)
   (λv Γ d q h=>pU (Bm (rq P need ops).loc Γ) λΓ=>K (.cw v) Γ d q h)
  |true=>O3 P need false call pl id ops Γ d q h K
 |.seq a b,g3,p,Γ,d,q,h,K=>o7 P call fn need pl a g3 (p++[0]) Γ d q h λe Γ d q h=>match e with
  |.nrm=>o7 P call fn need pl b g3 (p++[1]) Γ d q h K
  |e=>K e Γ d q h
 |.cond c a b,g3,p,Γ,d,q,h,K=>match n9 0 [] Γ (da P need [] c) with
  |none=>bad "if"
  |some s=>s.jj (EA (wG (1000+X5 c) pl)) (pU (wF (da P need [] c) .kz Γ) λΓ=>o7 P call fn need pl a g3 (p++[0]) Γ d q h K) (pU (wF (da P need [] c) .lB Γ) λΓ=>o7 P call fn need pl b g3 (p++[1]) Γ d q h K)
 |.block id b,_,p,Γ,d,q,h,K=>o7 P call fn need pl b id (p++[0]) Γ d q h λe Γ d q h=>match e with
  |.exit i=>match Nat.beq i id with
   |true=>K .nrm Γ d q h
   |false=>K (.exit i) Γ d q h
  |e=>K e Γ d q h
 |.loop _,g3,p,Γ,d,q,h,K=>EK P call fn pl g3 p Γ d q h K
 |.rangeFunc _ _ _ _,g3,p,Γ,d,q,h,K=>EK P call fn pl (500+g3) p Γ d q h K
 |_,_,_,_,_,_,_,_=>bad "code"
section
variable {P:Program} {call:aW} {fn:Func}
theorem IA:∀(l:List (Nat×lY)) {K:dK->dt},(EJ P l K).p->∃Γ,(K Γ).p
 |[],K,h=>⟨[],h⟩
 |(t,s)::l,K,h=>by
  obtain⟨x,h⟩:=wM h
  obtain⟨Γ,h⟩:=IA l h
  exact⟨_,h⟩
theorem O5{d:List cb}{q:bU}{K:wU}{b2:bW}{cc:bL}:∀(l:List (bW×List (Nat×lY))),(Iz P d q K b2 cc l).p->∃hF cD g,cc=⟨cD,d,q,g⟩/\bY (du hF) cD/\(K b2 hF d q g).p
 |[],h=>by cases h
 |[(e,rs)],h=>by
  obtain⟨hF,g,cD,rfl,ae,ax,aN⟩:=IA _ h
  exact⟨hF,cD,g,ae,ax,aN⟩
 |(e,rs)::y::l,h=>by
  rcases h with h|h
  · obtain⟨hF,g,cD,rfl,ae,ax,aN⟩:=IA _ h
    exact⟨hF,cD,g,ae,ax,aN⟩
  · exact O5 (y::l) h
theorem EL(Γ:Env):∀l:List Nat,bY (o0 Γ l) Γ
 |[]=>trivial
 |t::l=>by
  simp only[o0]
  cases h:eo t Γ with
  |none=>exact EL Γ l
  |some v=>exact⟨h,EL Γ l⟩
theorem O6{pl:ld}{g3:Nat}{p:List Nat}{Γ:dK}{d:List cb}{q:bU}{h:ab}{K:wU}(aa:(EK P call fn pl g3 p Γ d q h K).p):Iy P (ej fn) none call (sub (fD fn) p) Γ d q h K:=by
 unfold EK at aa
 split at aa
 · obtain⟨e,st,ao,aK⟩:=aa
   obtain⟨hF,cD,g,rfl,ax,aN⟩:=O5 _ aK
   have I:dA P (ej fn) none call (sub (fD fn) p) ⟨du Γ,d,q,h⟩ e ⟨cD,d,q,g⟩:=dA.pre (st1:=⟨du Γ,d,q,h⟩) ao (EL _ _) rfl rfl rfl
   exact⟨e,hF,d,q,g,dA.post I ax,aN⟩
 · cases aa
theorem uR{pl:ld}:∀(c:Code) (g3:Nat) (p:List Nat) (Γ:dK) (d:List cb) (q:bU) (h:ab) (K:wU),sub (fD fn) p=c->(o7 P call fn (ej fn) pl c g3 p Γ d q h K).p->Iy P (ej fn) none call c Γ d q h K
 |.skip,g3,p,Γ,d,q,h,K,ah,aa=>⟨.nrm,Γ,d,q,h,λr ao=>⟨r,rfl,ao⟩,aa⟩
 |.label _,g3,p,Γ,d,q,h,K,ah,aa=>⟨.nrm,Γ,d,q,h,λr ao=>⟨r,rfl,ao⟩,aa⟩
 |.exit id,g3,p,Γ,d,q,h,K,ah,aa=>⟨.exit id,Γ,d,q,h,λr ao=>⟨r,rfl,ao⟩,aa⟩
 |.ret,g3,p,Γ,d,q,h,K,ah,aa=>⟨.ret,Γ,d,q,h,λr ao=>⟨r,rfl,ao⟩,aa⟩
 |.scope b,g3,p,Γ,d,q,h,K,ah,aa=>uR b g3 (p++[0]) Γ d q h K (by rw[kR,ah];simp[sub]) aa
 |.region id ops draw,g3,p,Γ,d,q,h,K,ah,aa=>by
  simp only[o7] at aa
  cases draw with
  |true=>exact X3 aa
  |false=>
   rcases Is _ _ _ _ _ _ aa with⟨gk,cD,d',br,aw,bF,cJ,dg⟩|⟨v,cD,d',br,aw,bF,cJ,dg⟩
   · refine⟨.nrm,_,d',br,aw,λr ao=>⟨_,?_,It (by rw[cJ];exact ao) _ _ _ (by rw[cJ];exact ao)⟩,qL dg⟩
     have I:jI P (ej fn) false call r (rq P (ej fn) ops).steps [] d q h=.ok (aS.cq gk) d' br aw:=bF r ao
     simp only[et,Option.isSome_none,I,oI,EH]
   · refine⟨.cw v,_,d',br,aw,λr ao=>⟨_,?_,Iu _ _ _ (by rw[cJ];exact ao)⟩,qL dg⟩
     have I:jI P (ej fn) false call r (rq P (ej fn) ops).steps [] d q h=.cw v d' br aw:=bF r ao
     simp only[et,Option.isSome_none,I,oI]
 |.seq a b,g3,p,Γ,d,q,h,K,ah,aa=>by
  obtain⟨e,iC,d1,a8,I,r1,bG⟩:=uR a g3 (p++[0]) Γ d q h _ (by rw[kR,ah];simp[sub]) aa
  by_cases he:e=.nrm
  · subst he
    obtain⟨aE,Γ2,d2,a2,ae,r2,b0⟩:=uR b g3 (p++[1]) iC d1 a8 I K (by rw[kR,ah];simp[sub]) bG
    refine⟨aE,Γ2,d2,a2,ae,λr ao=>?_,b0⟩
    obtain⟨nu,hO,o8⟩:=r1 r ao
    obtain⟨X6,l2,X7⟩:=r2 nu o8
    exact⟨X6,by simp only at hO l2;simp only[et,hO,sr,l2],X7⟩
  · refine⟨e,iC,d1,a8,I,λr ao=>?_,by cases e<;>first|exact absurd rfl he|exact bG⟩
    obtain⟨nu,hO,o8⟩:=r1 r ao
    exact⟨nu,by simp only[et,hO];exact vZ he,o8⟩
 |.cond c a b,g3,p,Γ,d,q,h,K,ah,aa=>by
  simp only[o7] at aa
  split at aa
  · cases aa
  · rename_i s al
    have lz:im 0 [] (du Γ) (da P (ej fn) [] c)=some s.den:=by rw[show([]:List ad)=aS.cq [] from rfl,<-yC,al];rfl
    obtain⟨ag,aZ⟩:=ED _ aa
    have ai:=aS.rT ag
    rcases aZ with⟨bm,ay⟩|⟨bm,ay⟩
    · rw[bm] at ai
      obtain⟨_,aE,_⟩:=yE (x:=.kz) al ai
      obtain⟨e,iC,d1,a8,I,r1,bG⟩:=uR a g3 (p++[0]) _ d q h K (by rw[kR,ah];simp[sub]) (qL ay)
      refine⟨e,iC,d1,a8,I,λr ao=>?_,bG⟩
      obtain⟨nu,hO,o8⟩:=r1 r (by rw[aE];exact ao)
      exact⟨nu,by simp only at hO;simp only[et,yD ao lz,ai,hO],o8⟩
    · rw[bm] at ai
      obtain⟨_,aE,_⟩:=yE (x:=.lB) al ai
      obtain⟨e,iC,d1,a8,I,r1,bG⟩:=uR b g3 (p++[1]) _ d q h K (by rw[kR,ah];simp[sub]) (qL ay)
      refine⟨e,iC,d1,a8,I,λr ao=>?_,bG⟩
      obtain⟨nu,hO,o8⟩:=r1 r (by rw[aE];exact ao)
      exact⟨nu,by simp only at hO;simp only[et,yD ao lz,ai,hO],o8⟩
 |.block id b,g3,p,Γ,d,q,h,K,ah,aa=>by
  obtain⟨e,iC,d1,a8,I,r1,bG⟩:=uR b id (p++[0]) Γ d q h _ (by rw[kR,ah];simp[sub]) aa
  cases e with
  |exit i=>
   simp only at bG
   cases hi:Nat.beq i id with
   |true=>
    rw[hi] at bG
    obtain rfl:=Nat.eq_of_beq_eq_true hi
    exact⟨.nrm,iC,d1,a8,I,λr ao=>by
     obtain⟨nu,hO,o8⟩:=r1 r ao
     exact⟨nu,by simp only at hO;simp only[et,hO,if_true],o8⟩,bG⟩
   |false=>
    rw[hi] at bG
    have dr:¬i=id:=by intro dc;subst dc;simp at hi
    exact⟨.exit i,iC,d1,a8,I,λr ao=>by
     obtain⟨nu,hO,o8⟩:=r1 r ao
     exact⟨nu,by simp only at hO;simp only[et,hO,if_neg dr],o8⟩,bG⟩
  |_=>
   exact⟨_,iC,d1,a8,I,λr ao=>by
    obtain⟨nu,hO,o8⟩:=r1 r ao
    exact⟨nu,by simp only at hO;simp only[et,hO],o8⟩,bG⟩
 |.loop b,g3,p,Γ,d,q,h,K,ah,aa=>by
  have:=O6 aa;rw[ah] at this;exact this
 |.rangeFunc f ps as cK,g3,p,Γ,d,q,h,K,ah,aa=>by
  have:=O6 aa;rw[ah] at this;exact this
 |.goto _,g3,p,Γ,d,q,h,K,ah,aa=>by simp only[o7] at aa;cases aa
 |.refuse _,g3,p,Γ,d,q,h,K,ah,aa=>by simp only[o7] at aa;cases aa
def EM(P:Program)(fn:Func)(call:aW)(pl:ld)(bB:List Nat)(path:List Nat)(Γ:dK)(d:List cb)(q:bU)(h:ab)(Q:bW->bL->Prop):Prop:=
 (o7 P call fn (ej fn) pl (sub (fD fn) path) 0 path Γ d q h λe Γ d q h=>.mk (Q e ⟨o0 (du Γ) bB,d,q,h⟩)).p
theorem O7(pl:ld)(bB:List Nat)(Γ:dK){cD:Env}{path:List Nat}{d:List cb}{q:bU}{h:ab}{Q:bW->bL->Prop}(cn:du Γ=cD)(H:EM P fn call pl bB path Γ d q h Q):bp P fn call path ⟨cD,d,q,h⟩ Q:=by
 subst cn
 obtain⟨e,iC,d1,a8,I,r1,bG⟩:=uR _ 0 path Γ d q h _ rfl H
 exact⟨e,_,dA.post r1 (EL _ bB),bG⟩
def O8(P:Program)(fn:Func)(R:bE->Prop):wU:=λe Γ d q h=>match d with
 |[]=>match e with
  |.cw v=>.mk (R (.cw v h))
  |.ret|.nrm=>match qI P (ej fn) fn (du Γ) h with
   |some v=>.mk (R (.ret v h))
   |none=>bad "results"
  |_=>bad "end"
 |_=>bad "deferred"
def IB(P:Program)(fn:Func)(call:aW)(pl:ld)(Γ:dK)(h:ab)(R:bE->Prop):Prop:=
 (o7 P call fn (ej fn) pl (fD fn) 0 [] Γ [] .none h (O8 P fn R)).p
theorem X8{intr:Nat->List ad->ab->Option (ad×ab)}{f n:Nat}{args:List ad}{h:ab}{R:bE->Prop}(pl:ld)(Γ:dK)(hf:P.funcs[f]? =some fn)(ag:fn.body.isSome=true)(hi:intr f args h=none)(hle:Nat.ble args.length fn.ntmps=true)(cn:du Γ=n6 0 args)(H:IB P fn (fF P intr n) pl Γ h R):R (fF P intr (n+1) (.fn f) args h):=by
 refine wz hf ag hi hle (Q:=λe s=>s.d=[]/\((∃v,e=.cw v/\R (.cw v s.h))\/((e=.ret\/e=.nrm)/\∃v,qI P (ej fn) fn s.Γ s.h=some v/\R (.ret v s.h)))) ?_ λe s aK=>?_
 · have al:sub (fD fn) []=fD fn:=by cases fD fn<;>rfl
   obtain⟨e,iC,d1,a8,I,r1,bG⟩:=uR (fD fn) 0 [] Γ [] .none h _ al H
   rw[cn] at r1
   refine⟨e,⟨du iC,d1,a8,I⟩,by unfold a5;rw[al];exact r1,?_⟩
   unfold O8 at bG
   split at bG
   · refine⟨rfl,?_⟩
     split at bG
     · exact .inl ⟨_,rfl,bG⟩
     · split at bG
       · rename_i v aI;exact .inr ⟨.inl rfl,v,aI,bG⟩
       · cases bG
     · split at bG
       · rename_i v aI;exact .inr ⟨.inr rfl,v,aI,bG⟩
       · cases bG
     · cases bG
   · cases bG
 · obtain⟨ai,aK⟩:=aK
   rcases aK with⟨v,rfl,ao⟩|⟨he,v,aI,ao⟩
   · exact .inr ⟨v,rfl,ai,ao⟩
   · exact .inl ⟨he,ai,v,aI,ao⟩
end
attribute [irreducible] EM IB
@[reducible] def J (n:Nat):ad:=.int .i64 (.ofNat n)
@[reducible] def aC (n:Nat):ad:=.int .u64 (.ofNat n)
@[reducible] def b4 (n:Nat):ad:=.int .u8 (.ofNat n)
@[reducible] def af (b:Nat):ad:=.ptr b 0
@[reducible] def aQ (l:List ad) (t:Nat):dQ:=.cells l t .own 0 0
@[reducible] def cE (a b:Nat):Bool:=gY (.ofNat a) (.ofNat b)
@[reducible] def bQ (a b:Nat):Bool:=fc (.ofNat a) (.ofNat b)
@[reducible] def jU (a b:Nat):Bool:=j5 (.ofNat a) (.ofNat b)
abbrev cr(v:ad):Prop:=ad.sound v=true
abbrev g4(v:ad):Prop:=ad.de v=true
@[reducible] def aj (Γ:Env) (h:ab):bL:=⟨Γ,[],.none,h⟩
@[reducible] def aks (Γ:Env) (h:ab):bL:=⟨Γ,[],.none,h⟩
def Bs(os:List Nat):Env->dK
 |[]=>[]
 |(k,v)::l=>(k,if os.any (Nat.beq k) then aS.o v else aS.v v)::Bs os l
theorem IC(os:List Nat):∀Γ:Env,du (Bs os Γ)=Γ
 |[]=>rfl
 |(k,v)::l=>by
  show(k,aS.den (if os.any (Nat.beq k) then aS.o v else aS.v v))::du (Bs os l)=(k,v)::l
  rw[IC os l]
  split<;>rfl
theorem c3{P:Program}{fn:Func}{call:aW}(pl:ld)(bB os:List Nat){Γ:Env}{path:List Nat}{d:List cb}{q:bU}{h:ab}{Q:bW->bL->Prop}{X:Prop}(H:X)(e:X=EM P fn call pl bB path (Bs os Γ) d q h Q:=by kernel_rfl):bp P fn call path ⟨Γ,d,q,h⟩ Q:=O7 pl bB _ (IC os Γ) (Eq.mp e H)
theorem dB{P:Program}{fn:Func}{intr:Nat->List ad->ab->Option (ad×ab)}{f n:Nat}{args:List ad}{h:ab}{R:bE->Prop}(pl:ld)(os:List Nat)(hf:P.funcs[f]? =some fn){X:Prop}(H:X)(ag:fn.body.isSome=true:=by kernel_rfl)(hi:intr f args h=none:=by kernel_rfl)(hle:Nat.ble args.length fn.ntmps=true:=by kernel_rfl)(e:X=IB P fn (fF P intr n) pl (Bs os (n6 0 args)) h R:=by kernel_rfl):R (fF P intr (n+1) (.fn f) args h):=X8 pl _ hf ag hi hle (IC os _) (Eq.mp e H)
theorem X9{P:Program}{fn:Func}{call:aW}(pl:ld)(bB:List Nat)(Γ:dK){cD:Env}{path:List Nat}{d:List cb}{q:bU}{h:ab}{Q:bW->bL->Prop}{X:Prop}(H:X)(cn:du Γ=cD:=by rfl)(e:X=EM P fn call pl bB path Γ d q h Q:=by kernel_rfl):bp P fn call path ⟨cD,d,q,h⟩ Q:=O7 pl bB Γ cn (Eq.mp e H)
end bg
