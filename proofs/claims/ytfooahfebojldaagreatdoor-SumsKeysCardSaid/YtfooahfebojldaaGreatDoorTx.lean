/-
  PROVED HERE: contracts of functions (Tx). No condition beside each statement's own.
-/
import Derived.Test.YtfooahfebojldaaGreatDoorSxb
set_option linter.unusedVariables false
set_option linter.unusedSimpArgs false
namespace aB
open Go
inductive Stop(ia:String):Prop
inductive cI where
 |mk (p:Prop)
def cI.p:cI->Prop
 |.mk p=>p
abbrev bad(w:String):cI:=.mk (Stop w)
abbrev fE(p:Prop)(k:cI):cI:=.mk (p/\k.p)
abbrev dO{α:Type}(f:α->cI):cI:=.mk (∃x:α,(f x).p)
abbrev wJ(c c':Prop)(a b:cI):cI:=.mk ((c->a.p)/\(c'->b.p))
inductive aD where
 |v (a:I)
 |o (a:I)
 |iX|iY
 |lt (i n:Nat)|le (i n:Nat)|eq (i n:Nat)
 |cd (s:aD)
 |fM (l:List aD)
 |jB (l:List aD)
def aD.j0:aD->Bool
 |.iX=>true
 |.iY=>false
 |.lt i n=>bD (.ofNat i) (.ofNat n)
 |.le i n=>dv (.ofNat i) (.ofNat n)
 |.eq i n=>a0 (.ofNat i) (.ofNat n)
 |.cd s=>!s.j0
 |.v (.bool b)=>b
 |_=>false
def aD.sv:aD->Bool
 |.iX|.iY|.lt _ _|.le _ _|.eq _ _|.cd _=>true
 |.v (.bool _)=>true
 |_=>false
mutual
def aD.den:aD->I
 |.v a=>a
 |.o a=>a
 |.iX=>.bool true
 |.iY=>.bool false
 |.lt i n=>.bool (bD (.ofNat i) (.ofNat n))
 |.le i n=>.bool (dv (.ofNat i) (.ofNat n))
 |.eq i n=>.bool (a0 (.ofNat i) (.ofNat n))
 |.cd s=>.bool (!s.j0)
 |.fM l=>.agg (aD.bT l)
 |.jB l=>.aP (aD.bT l)
def aD.bT:List aD->List I
 |[]=>[]
 |s::l=>s.den::aD.bT l
end
def kN:I->aD
 |.bool true=>.iX
 |.bool false=>.iY
 |v=>.v v
abbrev c0:=List (Nat×aD)
def cO:c0->Env
 |[]=>[]
 |(t,s)::l=>(t,s.den)::cO l
def sw(t:Nat):c0->Option aD
 |[]=>none
 |(u,s)::l=>match Nat.beq t u with
  |true=>some s
  |false=>sw t l
def sx:Nat->List aD->Option aD
 |_,[]=>none
 |0,s::_=>some s
 |n+1,_::l=>sx n l
def sy:Nat->aD->List aD->List aD
 |_,_,[]=>[]
 |0,x,_::l=>x::l
 |n+1,x,s::l=>s::sy n x l
def zw(t:Nat)(x:aD):c0->c0
 |[]=>[]
 |(u,s)::l=>match Nat.beq t u with
  |true=>(u,x)::l
  |false=>(u,s)::zw t x l
def lq(m:Nat)(env:List aD)(Γ:c0):Acc->Option aD
 |.env j=>match Nat.blt j m with
  |true=>sx (m-1-j) env
  |false=>none
 |.reg p=>sw p.num Γ
 |.val v=>some (kN v)
def ue(m:Nat)(a:Acc)(b:aD)(env:List aD):List aD:=match a with
 |.env j=>sy (m-1-j) b env
 |_=>env
def sA(a:Acc)(b:aD)(Γ:c0):c0:=match a with
 |.reg p=>zw p.num b Γ
 |_=>Γ
def aD.lr(s:aD)(K:aD->cI):cI:=match s with
 |.v a=>K (.v a)
 |.o a=>K (.o a)
 |.iX=>K .iX
 |.iY=>K .iY
 |.lt i n=>K (.lt i n)
 |.le i n=>K (.le i n)
 |.eq i n=>K (.eq i n)
 |.cd s=>K (.cd s)
 |.fM l=>K (.fM l)
 |.jB l=>K (.jB l)
def qN:List aD->(List aD->cI)->cI
 |[],K=>K []
 |s::l,K=>s.lr λs=>qN l λl=>K (s::l)
def mY:c0->(c0->cI)->cI
 |[],K=>K []
 |(t,s)::l,K=>s.lr λs=>mY l λl=>K ((t,s)::l)
inductive jC where
 |ty (t:TypeId)
 |is (v:I)|io (v:I)
 |z (k:IntKind)
 |n (k:IntKind)
 |o
 |p|HX
 |st|b
 |fL|wK (c:ch)
 |jB (l:List jC)|fM (l:List jC)
 |HY (t:TypeId) (s:jC)
 |fn (f:Nat) (k:Nat)
inductive oy where
 |b7 (s:jC)
 |t|f
 |p (s:jC)
 |e (r:Option jC) (s:jC)
 |hD (ins:List Nat) (outs:List (bw×List (Nat×jC)))
def CE:List aD->List aD
 |[]=>[]
 |.fM l::r=>l++CE r
 |s::r=>s::CE r
abbrev j1:=List (Nat×oy)
def sB(k:Nat):j1->Option oy
 |[]=>none
 |(j,o)::l=>match Nat.beq k j with
  |true=>some o
  |false=>sB k l
mutual
def shape(P:Program):Nat->jC->(aD->cI)->cI
 |0,_,_=>bad "shape"
 |n+1,s,K=>match s with
  |.is v=>K (kN v)
  |.io v=>K (.o v)
  |.z k=>dO λx:Int=>K (.o (.int k x))
  |.n k=>dO λx:Nat=>K (.v (.int k (.ofNat x)))
  |.o=>dO λx:I=>K (.o x)
  |.p=>dO λx:Nat=>K (.v (.ptr x 0))
  |.HX=>dO λx:Nat=>dO λy:Nat=>K (.v (.ptr x y))
  |.st=>dO λx:List UInt8=>K (.v (.str x))
  |.b=>dO λx:Bool=>K (.v (.bool x))
  |.fL=>dO λx:Nat=>dO λy:Nat=>dO λz:Nat=>dO λc:ch=>K (.v (.slice x y z c))
  |.wK c=>dO λx:Nat=>dO λz:Nat=>K (.v (.slice x 0 z c))
  |.jB l=>qO P n l λr=>K (.jB r)
  |.fM l=>qO P n l λr=>K (.fM r)
  |.HY t s=>shape P n s λx=>K (.v (.iface t x.den))
  |.fn f k=>dO λx:List I=>K (.v (.fn f [] x))
  |.ty t=>match P.underlying t with
   |some .bool=>dO λx:Bool=>K (.v (.bool x))
   |some (.int k)=>dO λx:Nat=>K (.v (.int k (.ofNat x)))
   |some .string=>dO λx:List UInt8=>K (.v (.str x))
   |some (.pointer _)=>dO λx:Nat=>K (.v (.ptr x 0))
   |some (.struct cc)=>qO P n (cc.toList.map λf=>.ty f.type) λr=>K (.fM (CE r))
   |some (.tuple bJ)=>qO P n (bJ.toList.map .ty) λr=>K (.jB r)
   |some .invalid=>K (.v (.aP []))
   |some _=>dO λx:I=>K (.o x)
   |none=>K (.v (.aP []))
def qO(P:Program):Nat->List jC->(List aD->cI)->cI
 |0,_,_=>bad "shapes"
 |n+1,l,K=>match l with
  |[]=>K []
  |s::l=>shape P n s λx=>qO P n l λr=>K (x::r)
end
def aD.eh(ee:Option Bool)(A B:cI):aD->cI
 |.iX=>A
 |.iY=>B
 |.lt i n=>match ee with
  |none=>wJ (i<n) (¬i<n) A B
  |some true=>fE (i<n) A
  |some false=>fE (¬i<n) B
 |.le i n=>match ee with
  |none=>wJ (i<=n) (¬i<=n) A B
  |some true=>fE (i<=n) A
  |some false=>fE (¬i<=n) B
 |.eq i n=>match ee with
  |none=>wJ (i=n) (¬i=n) A B
  |some true=>fE (i=n) A
  |some false=>fE (¬i=n) B
 |.cd s=>s.eh (match ee with|none=>none|some b=>some (!b)) B A
 |.v (.bool x)=>match ee with
  |none=>wJ (x=true) (x=false) A B
  |some true=>fE (x=true) A
  |some false=>fE (x=false) B
 |_=>bad "choice"
def zx(o:Option oy):Option Bool:=match o with
 |some .t=>some true
 |some .f=>some false
 |_=>none
def CF(o:Option oy)(t:TypeId):jC:=match o with
 |some (.b7 s)=>s
 |_=>.ty t
def CG(op:BinOp)(x y:aD):Option aD:=match x,y with
 |.v (.int k (.ofNat a)),.v (.int ff (.ofNat b))=>match decide (k=ff) with
  |true=>match op with
   |.lss=>some (.lt a b)
   |.leq=>some (.le a b)
   |.gtr=>some (.lt b a)
   |.geq=>some (.le b a)
   |.eql=>some (.eq a b)
   |.neq=>some (.cd (.eq a b))
   |_=>none
  |false=>none
 |_,_=>none
def CH(op:BinOp)(x y:aD):Option (Prop×I):=match x,y with
 |.v (.int k (.ofNat a)),.v (.int ff (.ofNat b))=>match decide (k=ff),op,k with
  |true,.add,.i64=>some (a+b<9223372036854775808,.int .i64 (.ofNat (a+b)))
  |true,.sub,.i64=>some (b<=a/\a<9223372036854775808,.int .i64 (.ofNat (a-b)))
  |true,.mul,.i64=>some (a*b<9223372036854775808,.int .i64 (.ofNat (a*b)))
  |true,.add,.u64=>some (a+b<18446744073709551616,.int .u64 (.ofNat (a+b)))
  |true,.sub,.u64=>some (b<=a/\a<18446744073709551616,.int .u64 (.ofNat (a-b)))
  |_,_,_=>none
 |.v (.str a),.v (.str b)=>match op with
  |.add=>some (a.length+b.length<=1000000000000,.str (a++b))
  |_=>none
 |_,_=>none
def sC:aD->List I
 |.o a=>[a]
 |s=>s.den.cells
def sD:List aD->cI->cI
 |[],K=>K
 |.o a::l,K=>fE (a.b0=true) (sD l K)
 |_::l,K=>sD l K
def sE:List aD->Bool
 |[]=>true
 |.o _::l=>sE l
 |s::l=>s.den.b0&&sE l
def uf(s:aD)(K:cI):cI:=match s with
 |.o a=>fE (a.b0=true) K
 |.fM l=>match sE l with
  |true=>sD l K
  |false=>bad "cells"
 |s=>match s.den.cells.all I.b0 with
  |true=>K
  |false=>bad "cells"
def l6:aD->List aD
 |.fM l=>l
 |.v (.agg cs)=>cs.map kN
 |s=>[s]
def aD.CI:aD->Bool
 |.o _=>true
 |_=>false
def sF(place:Nat->Option (Nat×Nat)):List aD->List (Nat×aD)->Option (List aD)
 |cells,[]=>some cells
 |cells,(i,s)::rest=>match place i with
  |none=>none
  |some (off,size)=>match Nat.beq (l6 s).length size&&Nat.ble (off+size) cells.length with
   |true=>sF place (cells.take off++l6 s++(cells.drop off).drop (l6 s).length) rest
   |false=>none
def mZ:List (Nat×aD)->List aD
 |[]=>[]
 |(_,s)::l=>l6 s++mZ l
def zy(P:Program)(t:TypeId)(len:Nat)(ps:List (Nat×aD))(K:TypeId->List aD->cI):cI:=match P.underlying t with
 |some (.slice e)=>match dd P e,ea P e with
  |some sz,some z=>match Nat.ble (len*sz) 16777216&&Nat.beq z.cells.length sz,(if len*sz=0 then[] else eD len z.cells).all I.b0,sF (λi=>some (i*sz,sz)) ((if len*sz=0 then[] else eD len z.cells).map kN) ps,sE (mZ ps) with
   |true,true,some cs,true=>sD (mZ ps) (qN cs λcs=>K e cs)
   |_,_,_,_=>bad "buildSlice"
  |_,_=>bad "buildSlice"
 |_=>bad "buildSlice"
def eC(a b:Bool):Bool:=a==b
def CJ(P:Program)(op:BinOp)(t:TypeId)(x y:aD):Option aD:=match x.sv&&y.sv,P.underlying t,op with
 |true,some .bool,.eql=>some (.v (.bool (eC x.j0 y.j0)))
 |true,some .bool,.neq=>some (.cd (.v (.bool (eC x.j0 y.j0))))
 |_,_,_=>none
def PX(x y:aD):Bool:=match x,y with
 |.v (.ptr _ _),.v .bm|.v .bm,.v .bm|.v (.slice _ _ _ _),.v .bf|.v .bf,.v .bf|.v (.iface _ _),.v .ew|.v .ew,.v .ew=>true
 |_,_=>false
section
variable (P:Program) (inR:Bool) (call:aF->List I->J->ao)
abbrev oz:=aD->List bP->bE->J->cI
abbrev oA:=I->List bP->bE->J->cI
def zz(ee:Option oy)(t:TypeId)(f:aF)(args:List I)(d:List bP)(q:bE)(h:J)(K:oz)(dC:oA):cI:=match ee with
 |some (.p s)=>shape P 9 s λx=>dO λg:J=>fE (call f args h=.b1 x.den g) (dC x.den d q g)
 |some (.e r s)=>.mk ((shape P 9 (match r with|some r=>r|none=>.ty t) λx=>dO λg:J=>fE (call f args h=.ret x.den g) (K x d q g)).p\/(shape P 9 s λx=>dO λg:J=>fE (call f args h=.b1 x.den g) (dC x.den d q g)).p)
 |ee=>shape P 9 (CF ee t) λx=>dO λg:J=>fE (call f args h=.ret x.den g) (K x d q g)
def pq(ee:Option oy)(o:Oper)(g:Operand->aD)(d:List bP)(q:bE)(h:J)(K:oz)(dC:oA):cI:=
 match Cc o (λx=>(g x).den) with
 |0=>match cA P o (λx=>(g x).den) h with
  |.val v an=>match ee with
   |some (.b7 .o)=>K (.o v) d q an
   |_=>K (.v v) d q an
  |.b1 v an=>dC v d q an
  |.call f args an=>zz P call ee o.type (.fn f) args d q an K dC
  |.b8 l args an=>zz P call ee o.type (.b8 l) args d q an K dC
  |.jn x=>match inR with
   |true=>bad "defer"
   |false=>K (.v (.aP [])) (x::d) q h
  |.ry=>match inR with
   |true=>bad "recover"
   |false=>match q with
    |.none=>K (.v .ew) d .none h
    |.done v=>K (.v .ew) d (.done v) h
    |.act v=>K (.v v) d (.done v) h
  |.fail w=>bad w
 |1=>shape P 9 (CF ee o.type) λx=>fE (ny P o (λy=>(g y).den) h x.den) (K x d q h)
 |_=>shape P 9 (CF ee o.type) λx=>dO λan:J=>fE (tY P o (λy=>(g y).den) h x.den an) (K x d q an)
def CK(ee:Option oy)(o:Oper)(g:Operand->aD)(d:List bP)(q:bE)(h:J)(K:oz)(dC:oA):cI:=match o.op with
 |.move x|.assign x=>(g x).lr λs=>K s d q h
 |.unOp .not _ x=>match(g x).sv with
  |true=>(g x).lr λs=>K (.cd s) d q h
  |false=>bad "not"
 |.binOp op t x y _=>(g x).lr λu=>(g y).lr λw=>match(match CG op u w with|some s=>some s|none=>CJ P op t u w) with
  |some s=>K s d q h
  |none=>match PX u w with
   |true=>match ej P h op t x y u.den w.den with
    |some v=>(kN v).lr λs=>K s d q h
    |none=>bad "nil"
   |false=>match(match ee with|none=>CH op u w|some _=>none) with
    |some (p,v)=>fE p (K (.v v) d q h)
    |none=>pq P inR call ee o g d q h K dC
 |.extract x i=>match g x with
  |.jB l=>match sx i l with
   |some s=>s.lr λs=>K s d q h
   |none=>bad "extract"
  |_=>pq P inR call ee o g d q h K dC
 |.indexAddr t x i=>match P.underlying t,g x,fo (g i).den with
  |some (.array m e),.v (.ptr b off),some n=>match dd P e with
   |some sz=>fE (n<m) (K (.v (.ptr b (off+n*sz))) d q h)
   |none=>bad "indexAddr"
  |some (.slice e),.v (.slice b off m c),some n=>match dd P e with
   |some sz=>fE (n<m) (K (.v (.ptr b (off+n*sz))) d q h)
   |none=>bad "indexAddr"
  |_,_,_=>bad "indexAddr of what"
 |.store t a x=>match(g a).den,dd P t with
  |.ptr b off,some n=>match Nat.beq (sC (g x)).length n with
   |true=>(g x).lr λs=>uf s (dO λgD:J=>fE (storeCells h b off (sC s)=some gD) (K (.v (.aP [])) d q gD))
   |false=>bad "store size"
  |_,_=>bad "store"
 |.build t parts=>match(mZ (parts.toList.map λp=>(p.1,g p.2))).any aD.CI with
  |false=>pq P inR call ee o g d q h K dC
  |true=>match ea P t,P.underlying t with
   |some z,some (.struct cc)=>match cc.toList.all (λf=>(dd P f.type).isSome),sF (λi=>(cc[i]?).map λf=>(f.offset,P.cellsOf f.type)) (z.cells.map kN) (parts.toList.map λp=>(p.1,g p.2)),sE (mZ (parts.toList.map λp=>(p.1,g p.2))) with
    |true,some cs,true=>sD (mZ (parts.toList.map λp=>(p.1,g p.2))) (qN cs λcs=>K (.fM cs) d q h)
    |_,_,_=>bad "build"
   |_,_=>bad "build of what"
 |.buildSlice t len parts=>match(mZ (parts.toList.map λp=>(p.1,g p.2))).any aD.CI with
  |false=>pq P inR call ee o g d q h K dC
  |true=>zy P t len (parts.toList.map λp=>(p.1,g p.2)) λe cs=>K (.v (.slice h.n 0 len (.exact len))) d q (h.push (.cells (aD.bT cs) e .own 0 0))
 |.box e x=>(g x).lr λs=>uf s (K (.v (.ptr h.n 0)) d q (h.push (.cells (sC s) e .own 0 0)))
 |.call c=>match c.callee with
  |.builtin .len=>match c.args.toList.map g,c.argTypes[0]? with
   |[.o a],some t=>dO λn:Nat=>fE (bO P h t a=some (.int .i64 (.ofNat n))) (K (.v (.int .i64 (.ofNat n))) d q h)
   |_,_=>pq P inR call ee o g d q h K dC
  |_=>pq P inR call ee o g d q h K dC
 |_=>pq P inR call ee o g d q h K dC
end
end aB
namespace aB
open Go
theorem aD.oB{s:aD}(h:s.sv=true):s.den=.bool s.j0:=by
 cases s with
 |v a=>cases a<;>first|rfl|cases h
 |o a=>cases h
 |fM l=>cases h
 |jB l=>cases h
 |iX=>rfl
 |iY=>rfl
 |lt i n=>rfl
 |le i n=>rfl
 |eq i n=>rfl
 |cd s=>rfl
theorem wL(a:I):(kN a).den=a:=by
 unfold kN;split<;>rfl
theorem CL:∀(n:Nat) (l:List aD),(sx n l).map aD.den=nth n (aD.bT l)
 |0,[]=>rfl
 |_+1,[]=>rfl
 |0,x::l=>rfl
 |n+1,x::l=>CL n l
theorem HZ(n:Nat)(l:List aD)(s:aD)(h:sx n l=some s):nth n (aD.bT l)=some s.den:=by
 rw[<-CL,h];rfl
theorem H0(t:Nat):∀Γ:c0,(sw t Γ).map aD.den=eQ t (cO Γ)
 |[]=>rfl
 |(u,x)::l=>by
  simp only[sw,cO,eQ]
  cases af:Nat.beq t u with
  |true=>rfl
  |false=>exact H0 t l
def gG(m:Nat)(l:List I)(G:Env):Acc->Option I
 |.env j=>match Nat.blt j m with
  |true=>nth (m-1-j) l
  |false=>none
 |.reg p=>eQ p.num G
 |.val v=>some v
theorem ug(m:Nat)(env:List aD)(Γ:c0)(a:Acc):(lq m env Γ a).map aD.den=gG m (aD.bT env) (cO Γ) a:=by
 cases a with
 |env j=>
  simp only[lq,gG]
  cases Nat.blt j m with
  |true=>exact CL _ _
  |false=>rfl
 |reg p=>exact H0 _ _
 |val v=>simp only[lq,gG,Option.map_some,wL]
theorem uh{m:Nat}{l:List I}{G:Env}{r:aR}(hm:Mod r G){a:Acc}{v:I}(h:gG m l G a=some v):dF m l r a=v:=by
 cases a with
 |env j=>
  simp only[gG] at h
  split at h
  · simp only[dF,h,Option.getD_some]
  · cases h
 |reg p=>simp only[gG] at h;simp only[dF];rw[<-Hr p];exact hm _ _ h
 |val x=>cases h;rfl
theorem wM{m:Nat}{l:List I}{G:Env}{a:Acc}{v:I}(x:I)(h:gG m l G a=some v):gG (m+1) (x::l) G a=some v:=by
 cases a with
 |env j=>
  simp only[gG] at h⊢
  split at h
  · rename_i af
    have aG:j<m:=by simpa using af
    have ek:Nat.blt j (m+1)=true:=by simp;omega
    rw[ek]
    have:m+1-1-j=(m-1-j)+1:=by omega
    rw[this];exact h
  · cases h
 |reg p=>exact h
 |val x=>exact h
theorem H2(x:aD):∀(n:Nat) (l:List aD),(∀s,sx n l=some s->s.den=x.den)->aD.bT (sy n x l)=aD.bT l
 |0,[],_=>rfl
 |_+1,[],_=>rfl
 |0,s::l,h=>by simp only[sy,aD.bT,h s rfl]
 |n+1,s::l,h=>by simp only[sy,aD.bT];rw[H2 x n l h]
theorem H3(x:aD):∀(n:Nat) (l:List aD),(sy n x l).length=l.length
 |0,[]=>rfl
 |_+1,[]=>rfl
 |0,s::l=>rfl
 |n+1,s::l=>by simp only[sy,List.length_cons,H3 x n l]
theorem H4(t:Nat)(x:aD):∀Γ:c0,(∀s,sw t Γ=some s->s.den=x.den)->cO (zw t x Γ)=cO Γ
 |[],_=>rfl
 |(u,s)::l,h=>by
  simp only[zw]
  simp only[sw] at h
  cases af:Nat.beq t u with
  |true=>rw[af] at h;simp only[cO,h s rfl]
  |false=>rw[af] at h;simp only[cO];rw[H4 t x l h]
theorem ui{m:Nat}{env:List aD}{Γ:c0}{a:Acc}{s x:aD}(h:lq m env Γ a=some s)(e:s.den=x.den):aD.bT (ue m a x env)=aD.bT env/\cO (sA a x Γ)=cO Γ/\(ue m a x env).length=env.length:=by
 cases a with
 |env j=>
  simp only[lq] at h
  split at h
  · exact⟨H2 x _ _ λbC hs=>by rw[h] at hs;cases hs;exact e,rfl,H3 _ _ _⟩
  · cases h
 |reg p=>exact⟨rfl,H4 _ _ _ λbC hs=>by rw[show sw p.num Γ=some s from h] at hs;cases hs;exact e,rfl⟩
 |val v=>exact⟨rfl,rfl,rfl⟩
theorem aD.lu{s:aD}{K:aD->cI}(h:(s.lr K).p):(K s).p:=by cases s<;>exact h
theorem sG:∀{l:List aD} {K:List aD->cI},(qN l K).p->(K l).p
 |[],_,h=>h
 |s::l,K,h=>sG (l:=l) (aD.lu h)
theorem nD:∀{l:c0} {K:c0->cI},(mY l K).p->(K l).p
 |[],_,h=>h
 |(t,s)::l,K,h=>nD (l:=l) (aD.lu h)
theorem H5{P:Program}:∀(n:Nat),(∀(s:jC) (K:aD->cI),(shape P n s K).p->∃x,(K x).p)/\(∀(l:List jC) (K:List aD->cI),(qO P n l K).p->∃x,(K x).p)
 |0=>⟨λs K h=>(by simp only[shape] at h;cases h),λl K h=>(by simp only[qO] at h;cases h)⟩
 |n+1=>by
  obtain⟨aa,ad⟩:=H5 (P:=P) n
  refine⟨λs K h=>?_,λl K h=>?_⟩
  · simp only[shape] at h
    cases s with
    |is v=>exact⟨_,h⟩
    |io v=>exact⟨_,h⟩
    |z k=>obtain⟨x,h⟩:=h;exact⟨_,h⟩
    |n k=>obtain⟨x,h⟩:=h;exact⟨_,h⟩
    |o=>obtain⟨x,h⟩:=h;exact⟨_,h⟩
    |p=>obtain⟨x,h⟩:=h;exact⟨_,h⟩
    |HX=>obtain⟨x,y,h⟩:=h;exact⟨_,h⟩
    |st=>obtain⟨x,h⟩:=h;exact⟨_,h⟩
    |b=>obtain⟨x,h⟩:=h;exact⟨_,h⟩
    |fL=>obtain⟨x,y,z,c,h⟩:=h;exact⟨_,h⟩
    |wK c=>obtain⟨x,z,h⟩:=h;exact⟨_,h⟩
    |jB l=>obtain⟨r,h⟩:=ad _ _ h;exact⟨_,h⟩
    |fM l=>obtain⟨r,h⟩:=ad _ _ h;exact⟨_,h⟩
    |HY t s=>obtain⟨r,h⟩:=aa _ _ h;exact⟨_,h⟩
    |fn f k=>obtain⟨x,h⟩:=h;exact⟨_,h⟩
    |ty t=>
     simp only at h
     split at h
     · obtain⟨x,h⟩:=h;exact⟨_,h⟩
     · obtain⟨x,h⟩:=h;exact⟨_,h⟩
     · obtain⟨x,h⟩:=h;exact⟨_,h⟩
     · obtain⟨x,h⟩:=h;exact⟨_,h⟩
     · obtain⟨r,h⟩:=ad _ _ h;exact⟨_,h⟩
     · obtain⟨r,h⟩:=ad _ _ h;exact⟨_,h⟩
     · exact⟨_,h⟩
     · obtain⟨x,h⟩:=h;exact⟨_,h⟩
     · exact⟨_,h⟩
  · simp only[qO] at h
    cases l with
    |nil=>exact⟨_,h⟩
    |cons s l=>
     obtain⟨x,h⟩:=aa _ _ h
     obtain⟨r,h⟩:=ad _ _ h
     exact⟨_,h⟩
theorem sH{P:Program}{n:Nat}{s:jC}{K:aD->cI}(h:(shape P n s K).p):∃x,(K x).p:=(H5 n).1 s K h
theorem CM{p:Prop}{A B:cI}{ee:Option Bool}(h:(match ee with
  |none=>wJ p (¬p) A B
  |some true=>fE p A
  |some false=>fE (¬p) B).p):(p/\A.p)\/(¬p/\B.p):=by
 cases ee with
 |none=>by_cases a_:p
        · exact .inl ⟨a_,h.1 a_⟩
        · exact .inr ⟨a_,h.2 a_⟩
 |some b=>cases b with
  |true=>exact .inl h
  |false=>exact .inr h
theorem zA:∀(s:aD) {ee:Option Bool} {A B:cI},(s.eh ee A B).p->s.sv=true/\((s.j0=true/\A.p)\/(s.j0=false/\B.p))
 |.iX,_,_,_,h=>⟨rfl,.inl ⟨rfl,h⟩⟩
 |.iY,_,_,_,h=>⟨rfl,.inr ⟨rfl,h⟩⟩
 |.lt i n,ee,A,B,h=>by
  refine⟨rfl,?_⟩
  rcases CM (p:=i<n) h with⟨aa,ad⟩|⟨aa,ad⟩
  · exact .inl ⟨dx aa,ad⟩
  · exact .inr ⟨eg aa,ad⟩
 |.le i n,ee,A,B,h=>by
  refine⟨rfl,?_⟩
  rcases CM (p:=i<=n) h with⟨aa,ad⟩|⟨aa,ad⟩
  · exact .inl ⟨iD aa,ad⟩
  · exact .inr ⟨jA aa,ad⟩
 |.eq i n,ee,A,B,h=>by
  refine⟨rfl,?_⟩
  rcases CM (p:=i=n) h with⟨aa,ad⟩|⟨aa,ad⟩
  · exact .inl ⟨ss aa,ad⟩
  · exact .inr ⟨kM aa,ad⟩
 |.cd s,ee,A,B,h=>by
  refine⟨rfl,?_⟩
  simp only[aD.eh] at h
  obtain⟨_,ad⟩:=zA s h
  simp only[aD.j0]
  rcases ad with⟨e,k⟩|⟨e,k⟩
  · right;exact⟨by rw[e];rfl,k⟩
  · left;exact⟨by rw[e];rfl,k⟩
 |.v a,ee,A,B,h=>by
  cases a<;>simp only[aD.eh] at h<;>first|(cases h;done)|skip
  rename_i x
  refine⟨rfl,?_⟩
  simp only[aD.j0]
  cases x with
  |true=>left;refine⟨rfl,?_⟩;cases ee with
   |none=>exact h.1 rfl
   |some b=>cases b with
    |true=>exact h.2
    |false=>cases h.1
  |false=>right;refine⟨rfl,?_⟩;cases ee with
   |none=>exact h.2 rfl
   |some b=>cases b with
    |true=>cases h.1
    |false=>exact h.2
 |.o a,_,_,_,h=>by simp only[aD.eh] at h;cases h
 |.fM l,_,_,_,h=>by simp only[aD.eh] at h;cases h
 |.jB l,_,_,_,h=>by simp only[aD.eh] at h;cases h
section
variable {P:Program} {inR:Bool} {call:aF->List I->J->ao}
def hv(x:vk)(K:oz)(dC:oA):Prop:=(∃s d q h,x=.ok (aD.den s) d q h/\(K s d q h).p)\/∃v d q h,x=.b1 v d q h/\(dC v d q h).p
theorem hv.val{o:Oper}{g:Operand->I}{d:List bP}{q:bE}{h an:J}{K:oz}{dC:oA}{s:aD}(e:cA P o g h=.val s.den an)(k:(K s d q an).p):hv (dG P inR call none o g d q h) K dC:=
 .inl ⟨s,d,q,an,by simp only[dG,eb,e],k⟩
theorem wN{K:cI}:∀(l:List aD),sE l=true->(sD l K).p->(aD.bT l).all I.b0=true/\K.p
 |[],_,h=>⟨rfl,h⟩
 |x::l,av,h=>by
  cases x with
  |o a=>
   obtain⟨aa,ad⟩:=h
   obtain⟨bQ,cl⟩:=wN l av ad
   exact⟨by simp only[aD.bT,List.all_cons,aD.den,aa,bQ,Bool.and_self],cl⟩
  |_=>
   simp only[sE,Bool.and_eq_true] at av
   simp only[sD] at h
   obtain⟨bQ,cl⟩:=wN l av.2 h
   exact⟨by simp only[aD.bT,List.all_cons,av.1,bQ,Bool.and_self],cl⟩
theorem CN{s:aD}{K:cI}(h:(uf s K).p):s.den.cells=sC s/\(sC s).all I.b0=true/\K.p:=by
 cases s with
 |o a=>
  obtain⟨aa,ad⟩:=h
  refine⟨?_,by simp[sC,aa],ad⟩
  show a.cells=[a]
  cases a<;>first|rfl|cases aa
 |fM l=>
  simp only[uf] at h
  split at h
  · rename_i av;exact⟨rfl,wN l av h⟩
  · cases h
 |_=>
  simp only[uf] at h
  split at h
  · rename_i av;exact⟨rfl,av,h⟩
  · cases h
theorem kO:∀l:List aD,aD.bT l=l.map aD.den
 |[]=>rfl
 |s::l=>by simp only[aD.bT,List.map_cons,kO l]
theorem PY{s:aD}(h:(aD.bT (l6 s)).all I.b0=true):s.den.cells=aD.bT (l6 s)/\s.den≠ .bad:=by
 have one:∀a:I,a.b0=true->a.cells=[a]/\a≠ .bad:=λa ba=>by cases a<;>first|(cases ba;done)|exact⟨rfl,λh=>by cases h⟩
 have key:l6 s=[s]->s.den.cells=aD.bT (l6 s)/\s.den≠ .bad:=λe=>by
  rw[e] at h⊢
  simp only[aD.bT,List.all_cons,List.all_nil,Bool.and_true] at h⊢
  exact one _ h
 cases s with
 |fM l=>exact⟨rfl,nofun⟩
 |v a=>
  cases a with
  |agg cs=>
   refine⟨?_,nofun⟩
   show cs=aD.bT (cs.map kN)
   rw[kO,List.map_map]
   have:aD.den∘kN=id:=funext wL
   rw[this,List.map_id]
  |_=>exact key rfl
 |_=>exact key rfl
theorem PZ{place:Nat->Option (Nat×Nat)}{cells:List I}{i:Nat}{v:I}{rest:List (Nat×I)}{off size:Nat}(aC:v≠ .bad)(a_:place i=some (off,size))(af:(Nat.beq v.cells.length size&&Nat.ble (off+size) cells.length)=true){cs:List I}(ag:eR off v.cells cells=some cs):iO place cells ((i,v)::rest)=iO place cs rest:=by
 cases v<;>first|exact absurd rfl aC|simp only[iO,a_,af,ag]
theorem CO{place:Nat->Option (Nat×Nat)}:∀(ps:List (Nat×aD)) (cells cs:List aD),sF place cells ps=some cs->(aD.bT (mZ ps)).all I.b0=true->iO place (aD.bT cells) (ps.map λp=>(p.1,p.2.den))=some (aD.bT cs)
 |[],cells,cs,h,_=>by cases h;rfl
 |(i,s)::rest,cells,cs,h,ba=>by
  simp only[mZ,kO,List.map_append,List.all_append,Bool.and_eq_true] at ba
  rw[<-kO,<-kO] at ba
  obtain⟨bQ,cl⟩:=PY ba.1
  simp only[sF] at h
  split at h
  · cases h
  · rename_i off size a_
    split at h
    · rename_i af
      have aq:(aD.bT (l6 s)).length=(l6 s).length:=by rw[kO,List.length_map]
      have ag:(aD.bT cells).length=cells.length:=by rw[kO,List.length_map]
      have ek:=af
      simp only[Bool.and_eq_true,Nat.ble_eq] at ek
      have bH:=Nat.eq_of_beq_eq_true ek.1
      have vA:eR off s.den.cells (aD.bT cells)=some (aD.bT (cells.take off++l6 s++(cells.drop off).drop (l6 s).length)):=by
       have:=wF ((aD.bT cells).take off) (aD.bT (l6 s)) ((aD.bT cells).drop off) ba.1 (by simp;omega)
       rw[List.length_take,Nat.min_eq_left (by omega),List.take_append_drop] at this
       rw[bQ,this,aq]
       simp only[kO,List.map_append,List.map_take,List.map_drop,List.append_assoc]
      rw[List.map_cons,PZ cl a_ (by rw[bQ,aq,ag];exact af) vA]
      exact CO rest _ cs h ba.2
    · cases h
theorem H6{place:Nat->Option (Nat×Nat)}:∀(ps:List (Nat×aD)) (cells cs:List aD),sF place cells ps=some cs->(aD.bT cells).all I.b0=true->(aD.bT (mZ ps)).all I.b0=true->(aD.bT cs).all I.b0=true
 |[],cells,cs,h,ag,_=>by cases h;exact ag
 |(i,s)::rest,cells,cs,h,ag,ba=>by
  simp only[mZ,kO,List.map_append,List.all_append,Bool.and_eq_true] at ba
  rw[<-kO,<-kO] at ba
  simp only[sF] at h
  split at h
  · cases h
  · split at h
    · refine H6 rest _ cs h ?_ ba.2
      rw[kO] at ag⊢
      rw[List.all_eq_true] at ag⊢
      have aa:=ba.1
      rw[kO,List.all_eq_true] at aa
      intro x ab
      rw[List.map_append,List.map_append,List.mem_append,List.mem_append] at ab
      rcases ab with(ab|ab)|ab
      · rw[List.map_take] at ab;exact ag x (List.mem_of_mem_take ab)
      · exact aa x ab
      · rw[List.map_drop,List.map_drop] at ab;exact ag x (List.mem_of_mem_drop (List.mem_of_mem_drop ab))
    · cases h
theorem H7{t:TypeId}{len:Nat}{ps:List (Nat×aD)}{K:TypeId->List aD->cI}(h:(zy P t len ps K).p):∃e sz z cs,P.underlying t=some (.slice e)/\dd P e=some sz/\ea P e=some z/\(Nat.ble (len*sz) 16777216&&Nat.beq z.cells.length sz)=true/\iO (λi=>some (i*sz,sz)) (if len*sz=0 then[] else eD len z.cells) (ps.map λp=>(p.1,p.2.den))=some (aD.bT cs)/\(aD.bT cs).all I.b0=true/\(K e cs).p:=by
 unfold zy at h
 split at h
 · rename_i e hu
   split at h
   · rename_i sz z hs a4
     split at h
     · rename_i cs aa ad aw aQ
       obtain⟨c9,k⟩:=wN _ aQ h
       have dt:aD.bT ((if len*sz=0 then[] else eD len z.cells).map kN)=(if len*sz=0 then[] else eD len z.cells):=by rw[kO,List.map_map,show aD.den∘kN=id from funext wL,List.map_id]
       have hf:=CO _ _ _ aw c9
       have ag:=H6 _ _ _ aw (by rw[dt];exact ad) c9
       rw[dt] at hf
       exact⟨e,sz,z,cs,hu,hs,a4,aa,hf,ag,sG k⟩
     · cases h
   · cases h
 · cases h
theorem H8{g:Operand->aD}(parts:Array (Nat×Operand)):(parts.toList.map λp=>(p.1,g p.2)).map (λp=>(p.1,p.2.den))=parts.toList.map λp=>(p.1,(g p.2).den):=by
 rw[List.map_map];rfl
theorem H9{ee:Option oy}{t:TypeId}{f:aF}{args:List I}{d:List bP}{q:bE}{h:J}{K:oz}{dC:oA}(ab:(zz P call ee t f args d q h K dC).p):hv (vl d q (call f args h)) K dC:=by
 unfold zz at ab
 split at ab
 · obtain⟨x,g,e,k⟩:=sH ab
   rw[e];exact .inr ⟨_,_,_,_,rfl,k⟩
 · rcases ab with ab|ab
   · obtain⟨x,g,e,k⟩:=sH ab
     rw[e];exact .inl ⟨_,_,_,_,rfl,k⟩
   · obtain⟨x,g,e,k⟩:=sH ab
     rw[e];exact .inr ⟨_,_,_,_,rfl,k⟩
 · obtain⟨x,g,e,k⟩:=sH ab
   rw[e];exact .inl ⟨_,_,_,_,rfl,k⟩
theorem sI{ee:Option oy}{o:Oper}{g:Operand->aD}{d:List bP}{q:bE}{h:J}{K:oz}{dC:oA}(ab:(pq P inR call ee o g d q h K dC).p):hv (dG P inR call none o (λx=>(g x).den) d q h) K dC:=by
 unfold pq at ab
 split at ab
 · split at ab
   · rename_i v an he
     split at ab
     · exact hv.val (s:=.o v) he ab
     · exact hv.val (s:=.v v) he ab
   · rename_i v an he
     exact .inr ⟨v,d,q,an,by simp only[dG,eb,he],ab⟩
   · rename_i f args an he
     have:=H9 ab
     simpa only[dG,eb,he] using this
   · rename_i l args an he
     have:=H9 ab
     simpa only[dG,eb,he] using this
   · rename_i x he
     split at ab
     · cases ab
     · exact .inl ⟨.v (.aP []),_,_,_,by simp only[dG,eb,he];rfl,ab⟩
   · rename_i he
     split at ab
     · cases ab
     · split at ab
       · exact .inl ⟨.v .ew,_,_,_,by simp only[dG,eb,he];rfl,ab⟩
       · exact .inl ⟨.v .ew,_,_,_,by simp only[dG,eb,he];rfl,ab⟩
       · rename_i v
         exact .inl ⟨.v v,_,_,_,by simp only[dG,eb,he];rfl,ab⟩
   · cases ab
 · obtain⟨x,c,k⟩:=sH ab
   exact hv.val (sm c) k
 · obtain⟨x,an,c,k⟩:=sH ab
   exact hv.val (Cm c) k
theorem P0{op:BinOp}{x y s:aD}(ab:CG op x y=some s)(h:J)(t:TypeId)(a b:Operand):ej P h op t a b x.den y.den=some s.den:=by
 unfold CG at ab
 split at ab
 · rename_i k db ff lS
   split at ab
   · rename_i av
     obtain rfl:k=ff:=of_decide_eq_true av
     split at ab<;>first|(cases ab;done)|(cases ab;simp only[aD.den,ej,arith,if_true,aD.j0])
   · cases ab
 · cases ab
theorem P1{op:BinOp}{x y s:aD}{t:TypeId}(ab:CJ P op t x y=some s)(h:J)(a b:Operand):ej P h op t a b x.den y.den=some s.den:=by
 unfold CJ at ab
 split at ab
 · rename_i af hu
   rw[Bool.and_eq_true] at af
   cases ab
   rw[aD.oB af.1,aD.oB af.2]
   simp only[ej,pY,if_true,hz,hu,aD.den,eC]
 · rename_i af hu
   rw[Bool.and_eq_true] at af
   cases ab
   rw[aD.oB af.1,aD.oB af.2]
   simp only[ej,pY,if_true,hz,hu,aD.den,aD.j0,eC]
 · cases ab
theorem P2{op:BinOp}{x y:aD}{p:Prop}{v:I}(ab:CH op x y=some (p,v))(a_:p)(h:J)(t:TypeId)(a b:Operand):ej P h op t a b x.den y.den=some v:=by
 unfold CH at ab
 split at ab
 · rename_i k db ff lS
   split at ab
   · rename_i av;cases ab;obtain rfl:=of_decide_eq_true av
     simp only[aD.den,ej,if_true];exact qM a_
   · rename_i av;cases ab;obtain rfl:=of_decide_eq_true av
     simp only[aD.den,ej,if_true];exact pj a_.1 a_.2
   · rename_i av;cases ab;obtain rfl:=of_decide_eq_true av
     simp only[aD.den,ej,if_true];exact wG a_
   · rename_i av;cases ab;obtain rfl:=of_decide_eq_true av
     simp only[aD.den,ej,if_true];exact HM a_
   · rename_i av;cases ab;obtain rfl:=of_decide_eq_true av
     simp only[aD.den,ej,if_true];exact zq a_.1 a_.2
   · cases ab
 · split at ab
   · cases ab
     simp only[aD.den,ej];exact fa a_
   · cases ab
 · cases ab
theorem P3{ee:Option oy}{o:Oper}{g:Operand->aD}{d:List bP}{q:bE}{h:J}{K:oz}{dC:oA}(ab:(CK P inR call ee o g d q h K dC).p):hv (dG P inR call none o (λx=>(g x).den) d q h) K dC:=by
 unfold CK at ab
 split at ab
 · rename_i x a7
   exact hv.val (s:=g x) (by simp only[cA,a7]) (aD.lu ab)
 · rename_i x a7
   exact hv.val (s:=g x) (by simp only[cA,a7]) (aD.lu ab)
 · rename_i t x a7
   split at ab
   · rename_i af
     exact hv.val (s:=.cd (g x)) (by simp only[cA,a7,aD.oB af];rfl) (aD.lu ab)
   · cases ab
 · rename_i op t x y yt a7
   replace ab:=aD.lu (aD.lu ab)
   have key:∀{s:aD},ej P h op t x y (g x).den (g y).den=some s.den->(K s d q h).p->hv (dG P inR call none o (λx=>(g x).den) d q h) K dC:=λ{s} e k=>hv.val (s:=s) (by simp only[cA,a7,e,fp]) k
   split at ab
   · rename_i s hs
     split at hs
     · rename_i bC dD;cases hs;exact key (P0 dD h t x y) ab
     · exact key (P1 hs h x y) ab
   · split at ab
     · split at ab
       · rename_i v aC;exact key (s:=kN v) (by rw[wL];exact aC) (aD.lu ab)
       · cases ab
     · split at ab
       · rename_i p v a_
         cases ee with
         |none=>exact key (s:=.v v) (P2 a_ ab.1 h t x y) ab.2
         |some _=>cases a_
       · exact sI ab
 · rename_i x i a7
   split at ab
   · rename_i l aq
     split at ab
     · rename_i s hs
       exact hv.val (s:=s) (by simp only[cA,a7,aq,aD.den,HZ _ _ _ hs,fp]) (aD.lu ab)
     · cases ab
   · exact sI ab
 · rename_i t x i a7
   split at ab
   · rename_i m e b off n hu eI ae
     split at ab
     · rename_i sz a4
       exact hv.val (s:=.v (.ptr b (off+n*sz))) (by simp only[cA,a7,hu,eI,aD.den,ae,a4,if_pos ab.1]) ab.2
     · cases ab
   · rename_i e b off m c n hu eI ae
     split at ab
     · rename_i sz a4
       exact hv.val (s:=.v (.ptr b (off+n*sz))) (by simp only[cA,a7,hu,eI,aD.den,ae,a4,if_pos ab.1]) ab.2
     · cases ab
   · cases ab
 · rename_i t a x a7
   split at ab
   · rename_i b off n wO a4
     split at ab
     · rename_i aq
       obtain⟨ax,ay,gD,bF,k⟩:=CN (aD.lu ab)
       have ag:tY P o (λy=>(g y).den) h (.aP []) gD:=by
        unfold tY
        rw[a7]
        simp only[wO]
        rw[ax]
        exact⟨by rw[a4,Nat.eq_of_beq_eq_true aq],bF,trivial⟩
       exact hv.val (s:=.v (.aP [])) (Cm ag) k
     · cases ab
   · cases ab
 · rename_i t parts a7
   split at ab
   · exact sI ab
   · split at ab
     · rename_i z cc a4 hu
       split at ab
       · rename_i cs aa ad aw
         obtain⟨c9,k⟩:=wN _ aw ab
         have hf:=CO _ _ _ ad c9
         rw[show aD.bT (z.cells.map kN)=z.cells by rw[kO,List.map_map,show aD.den∘kN=id from funext wL,List.map_id],List.map_map] at hf
         exact hv.val (s:=.fM cs) (by simp only[cA,a7,a4,hu,aa];exact by rw[show(parts.toList.map λp=>(p.1,(g p.2).den))=parts.toList.map ((λp=>(p.1,aD.den p.2))∘ λp=>(p.1,g p.2)) from rfl,hf];rfl) (sG k)
       · cases ab
     · cases ab
 · rename_i t len parts a7
   split at ab
   · exact sI ab
   · obtain⟨e,sz,z,cs,hu,hs,a4,aa,hf,ag,k⟩:=H7 ab
     rw[H8] at hf
     exact hv.val (s:=.v (.slice h.n 0 len (.exact len))) (by simp only[cA,a7,hu,hs,a4,aa,hf,newRow,ag];rfl) k
 · rename_i e x a7
   obtain⟨ax,ay,k⟩:=CN (aD.lu ab)
   exact hv.val (s:=.v (.ptr h.n 0)) (by simp only[cA,a7,newRow,ax,ay];rfl) k
 · rename_i c a7
   split at ab
   · rename_i ik
     split at ab
     · rename_i a t ba aU
       obtain⟨n,e,k⟩:=ab
       have gZ:c.args.toList.map (λy=>(g y).den)=[a]:=by
        have:(c.args.toList.map g).map aD.den=[a]:=by rw[ba];rfl
        rw[List.map_map] at this;exact this
       have ag:ny P o (λy=>(g y).den) h (.int .i64 (.ofNat n)):=by
        unfold ny
        rw[a7]
        simp only[ik,gZ,aU]
        exact e
       exact hv.val (s:=.v (.int .i64 (.ofNat n))) (sm ag) k
     · exact sI ab
   · exact sI ab
 · exact sI ab
end
end aB
namespace aB
open Go
def keyOf(hE i:Nat)(o:Oper):Nat:=match o.dst with
 |some t=>t
 |none=>3000+50*hE+i
section
variable (P:Program) (need:Nat)
def kj(m:Nat)(env:List aD)(Γ:c0)(loc:List (Nat×Acc))(x:Operand):aD:=match lq m env Γ (cL P need loc x) with
 |some s=>s
 |none=>.v .bad
def zB(m:Nat)(env:List aD)(Γ:c0)(loc:List (Nat×Acc))(o:Oper):Bool:=o.op.operands.toList.all λx=>(lq m env Γ (cL P need loc x)).isSome
def zC(ee:Option Bool)(gd:Option (Acc×Bool))(m:Nat)(env:List aD)(Γ:c0)(uj uk:List aD->c0->cI):cI:=match gd with
 |none=>uj env Γ
 |some (a,b)=>match lq m env Γ a with
  |none=>bad "guard"
  |some s=>match s with
   |.v (.aP [])=>uk env Γ
   |s=>s.eh ee (qN (ue m a .iX env) λenv=>mY (sA a .iX Γ) λΓ=>(match b with|true=>uj env Γ|false=>uk env Γ)) (qN (ue m a .iY env) λenv=>mY (sA a .iY Γ) λΓ=>(match b with|true=>uk env Γ|false=>uj env Γ))
variable (inR:Bool) (call:aF->List I->J->ao)
def wP(pl:j1)(key m:Nat)(env:List aD)(Γ:c0)(loc:List (Nat×Acc))(o:Oper)(d:List bP)(q:bE)(h:J)(K:List aD->c0->oz)(dC:c0->oA):cI:=match o.op with
 |.pick c a b=>match lq m env Γ (cL P need loc c) with
  |none=>bad "pick"
  |some s=>s.eh (zx (sB (2000+key) pl)) (qN (ue m (cL P need loc c) .iX env) λeY=>mY (sA (cL P need loc c) .iX Γ) λbU=>(kj P need m env Γ loc a).lr λx=>K eY bU x d q h) (qN (ue m (cL P need loc c) .iY env) λeY=>mY (sA (cL P need loc c) .iY Γ) λbU=>(kj P need m env Γ loc b).lr λx=>K eY bU x d q h)
 |_=>CK P inR call (sB key pl) o (kj P need m env Γ loc) d q h (K env Γ) (dC Γ)
def wQ(pl:j1)(hE:Nat):List Step->List aD->c0->List bP->bE->J->(List aD->c0->List bP->bE->J->cI)->(I->c0->List bP->bE->J->cI)->cI
 |[],env,Γ,d,q,h,K,_=>K env Γ d q h
 |s::rest,env,Γ,d,q,h,K,dC=>match zB P need s.m env Γ s.loc s.o with
  |false=>bad ("an operand " ++s.o.pos)
  |true=>zC (zx (sB (1000+keyOf hE s.m s.o) pl)) s.guard s.m env Γ
   (λenv Γ=>wP P need inR call pl (keyOf hE s.m s.o) s.m env Γ s.loc s.o d q h (λenv Γ v d q h=>wQ pl hE rest (v::env) Γ d q h K dC) (λΓ v d q h=>dC v Γ d q h))
   (λenv Γ=>wQ pl hE rest (.v (.aP [])::env) Γ d q h K dC)
def sJ(t:Nat):c0->c0
 |[]=>[]
 |(u,s)::l=>match Nat.beq t u with
  |true=>sJ t l
  |false=>(u,s)::sJ t l
def sK(m:Nat)(env:List aD)(e_:c0):List (Nat×Acc)->c0->c0
 |[],Γ=>Γ
 |(t,a)::l,Γ=>match Nat.testBit need t with
  |true=>match lq m env e_ a with
   |some s=>(t,s)::sJ t (sK m env e_ l Γ)
   |none=>sJ t (sK m env e_ l Γ)
  |false=>sK m env e_ l Γ
def wR:List (Nat×Acc)->c0->c0
 |[],Γ=>Γ
 |(t,_)::l,Γ=>sJ t (wR l Γ)
abbrev l7:=List (Nat×Nat×J×Nat)
def hF:l7->mU
 |[]=>[]
 |(e,m,h,_)::l=>(e,m,h)::hF l
def zD(o:Oper)(g:Operand->aD):Bool:=match o.op with
 |.move _|.assign _|.pick .. |.build .. |.nilCheck _|.makeInterface .. |.makeFunc .. |.fieldAddr .. |.field .. |.indexAddr .. |.index .. |.extract .. |.typeAssert .. =>true
 |.unOp .. =>true
 |.binOp _ _ x y _=>match g x,g y with
  |.v (.int _ _),.v (.int _ _)=>true
  |.v (.str _),.v (.str _)=>true
  |x,y=>x.sv&&y.sv
 |.call c=>match c.callee with
  |.builtin .len=>match c.argTypes[0]? with
   |some t=>match P.underlying t with
    |some (.slice _)=>true
    |some .string=>true
    |_=>false
   |none=>false
  |_=>false
 |_=>false
def um:List aD->cI->cI
 |[],K=>K
 |.o a::l,K=>fE (a.sound=true) (um l K)
 |s::l,K=>match s.den.sound with
  |true=>um l K
  |false=>bad "sound"
def CP:aD->cI->cI
 |.o a,K=>fE (a.sound=true) K
 |.iX,K|.iY,K|.lt _ _,K|.le _ _,K|.eq _ _,K|.cd _,K=>K
 |.v a,K=>match a.sound with
  |true=>K
  |false=>bad "sound"
 |.fM l,K=>um l K
 |.jB l,K=>match iC (aD.bT l) with
  |true=>K
  |false=>bad "sound"
def uo(s:DStep)(gp:Nat):Option Nat->J->Nat->l7->List (Option J)
 |dI,h,cn,a1=>
  (match pg s dI (hF a1) with
   |true=>[]
   |false=>[match Nat.beq cn gp with|true=>none|false=>some h])++
  (match a1 with
   |[]=>[]
   |(e,_,an,kk)::rest=>uo s gp (some e) an kk rest)
def uq(o:Oper)(g:Operand->I)(v:I)(qP:Bool):List (Option J)->cI->cI
 |[],K=>K
 |none::l,K=>uq o g v qP l K
 |some h::l,K=>match qP with
  |true=>uq o g v qP l K
  |false=>fE (ny P o g h v) (uq o g v qP l K)
def kP(ops:Array Oper)(n:Nat)(env:List aD)(dy:List Nat)(Γ:c0)(last:Option Nat)(h:J)(cn:Nat)(a1:l7):List DStep->cI->cI
 |[],K=>K
 |s::rest,K=>match Nat.blt s.i n,kindOf P s.o.op with
  |true,.pure=>match sx (n-1-s.i) env,nth (n-1-s.i) dy with
   |some v,some gp=>match uo s gp last h cn a1 with
    |[]=>kP ops n env dy Γ last h cn a1 rest K
    |l=>match v with
     |.v (.aP [])=>match jr P need ops s.loc s.o with
      |some (a,b)=>match lq n env Γ a with
       |some (.v (.aP []))=>kP ops n env dy Γ last h cn a1 rest K
       |some .iX=>match b with
        |false=>kP ops n env dy Γ last h cn a1 rest K
        |true=>bad "look"
       |some .iY=>match b with
        |true=>kP ops n env dy Γ last h cn a1 rest K
        |false=>bad "look"
       |_=>bad "look"
      |none=>bad "look"
     |v=>CP v (uq P s.o (λx=>(kj P need n env Γ s.loc x).den) v.den (zD P s.o (kj P need n env Γ s.loc)) l (kP ops n env dy Γ last h cn a1 rest K))
   |_,_=>bad "look"
  |_,_=>kP ops n env dy Γ last h cn a1 rest K
def CQ(op:Op)(g:Operand->aD)(b:Nat)(K:aD->cp->cI):cI:=match op with
 |.box e x=>(g x).lr λs=>uf s (K (.v (.ptr b 0)) (.cells (sC s) e .own 0 0))
 |.makeSlice t l c=>match fo (g l).den with
  |some ob=>dO λz:cp=>fE (Hm P t (g l).den (g c).den b=some (.slice b 0 ob (match fo (g c).den with|some c'=>.exact c'|none=>.dead),z)) (K (.v (.slice b 0 ob (match fo (g c).den with|some c'=>.exact c'|none=>.dead))) z)
  |none=>bad "makeSlice"
 |.buildSlice t len parts=>match(mZ (parts.toList.map λp=>(p.1,g p.2))).any aD.CI with
  |true=>zy P t len (parts.toList.map λp=>(p.1,g p.2)) λe cs=>K (.v (.slice b 0 len (.exact len))) (.cells (aD.bT cs) e .own 0 0)
  |false=>match ju P (.buildSlice t len parts) (λx=>(g x).den) b with
   |some (v,o)=>K (.v v) o
   |none=>bad "alloc"
 |op=>match ju P op (λx=>(g x).den) b with
  |some (v,o)=>K (.v v) o
  |none=>bad "alloc"
abbrev qQ:=List aD->List Nat->c0->List bP->bE->J->Nat->l7->cI
def qR(pl:j1)(hE:Nat)(ops:Array Oper)(cE:Nat):List DStep->List aD->List Nat->c0->List bP->bE->J->Nat->l7->qQ->(I->qQ)->cI
 |[],env,dy,Γ,d,q,h,cn,a1,K,_=>K env dy Γ d q h cn a1
 |s::rest,env,dy,Γ,d,q,h,cn,a1,K,dC=>match zB P need s.i env Γ s.loc s.o with
  |false=>bad ("an operand " ++s.o.pos)
  |true=>zC (zx (sB (1000+keyOf hE s.i s.o) pl)) (jr P need ops s.loc s.o) s.i env Γ
   (λenv Γ=>match kindOf P s.o.op with
    |.alloc=>CQ P s.o.op (kj P need s.i env Γ s.loc) (cE+s.i) λv o=>qR pl hE ops cE rest (v::env) (cn::dy) Γ d q (h.set (cE+s.i) (some o)) (cn+1) a1 K dC
    |.pure=>wP P need inR call pl (keyOf hE s.i s.o) s.i env Γ s.loc s.o d q h (λenv Γ v _ _ _=>qR pl hE ops cE rest (v::env) (cn::dy) Γ d q h cn a1 K dC) (λ_ _ _ _ _=>bad "a panic")
    |.dS=>match sj s (hF a1) with
     |false=>bad "order"
     |true=>wP P need inR call pl (keyOf hE s.i s.o) s.i env Γ s.loc s.o d q h (λenv Γ v bx bG an=>qR pl hE ops cE rest (v::env) (cn::dy) Γ bx bG an (cn+1) ((s.i,s.eE,h,cn)::a1) K dC)
      (λΓ v bx bG an=>match rest.all (λbC=>Nat.testBit bC.eE s.i) with
       |true=>dC v env dy Γ bx bG an (cn+1) ((s.i,s.eE,h,cn)::a1)
       |false=>bad "panic"))
   (λenv Γ=>match kindOf P s.o.op with
    |.dS=>match sj s (hF a1) with
     |false=>bad "order"
     |true=>qR pl hE ops cE rest (.v (.aP [])::env) (cn::dy) Γ d q h cn ((s.i,s.eE,h,cn)::a1) K dC
    |_=>qR pl hE ops cE rest (.v (.aP [])::env) (cn::dy) Γ d q h cn a1 K dC)
end
end aB
namespace aB
open Go
section
variable {P:Program} {need:Nat} {inR:Bool} {call:aF->List I->J->ao}
theorem CR{m:Nat}{env:List aD}{Γ:c0}{loc:List (Nat×Acc)}{x:Operand}:(kj P need m env Γ loc x).den=(gG m (aD.bT env) (cO Γ) (cL P need loc x)).getD .bad:=by
 rw[<-ug]
 unfold kj
 split<;>rename_i h<;>rw[h]<;>rfl
theorem H_{m:Nat}{env:List aD}{Γ:c0}{loc:List (Nat×Acc)}{o:Oper}(h:zB P need m env Γ loc o=true):∀x∈o.op.operands,(gG m (aD.bT env) (cO Γ) (cL P need loc x)).isSome=true:=by
 intro x ab
 unfold zB at h
 rw[List.all_eq_true] at h
 have:=h x (by simpa using ab)
 rw[<-ug,Option.isSome_map];exact this
theorem CS{r:aR}{G:Env}(hm:Mod r G){m:Nat}{l:List I}{loc:List (Nat×Acc)}{o:Oper}(h:∀x∈o.op.operands,(gG m l G (cL P need loc x)).isSome=true):∀x∈o.op.operands,dF m l r (cL P need loc x)=(gG m l G (cL P need loc x)).getD .bad:=by
 intro x ab
 obtain⟨v,aC⟩:=Option.isSome_iff_exists.1 (h x ab)
 rw[uh hm aC,aC];rfl
def nE(m:Nat)(l:List I)(G:Env)(gd:Option (Acc×Bool))(W:Bool):Prop:=match gd with
 |none=>W=true
 |some (a,b)=>∃wS,gG m l G a=some wS/\eb (some (wS,b))=some W
theorem nE.ok{m:Nat}{l:List I}{G:Env}{gd:Option (Acc×Bool)}{W:Bool}(h:nE m l G gd W){r:aR}(hm:Mod r G):eb (gd.map λx=>(dF m l r x.1,x.2))=some W:=by
 cases gd with
 |none=>cases h;rfl
 |some x=>
  obtain⟨wS,aa,ad⟩:=h
  simp only[Option.map_some,uh hm aa,ad]
theorem nE.more{m:Nat}{l:List I}{G:Env}{gd:Option (Acc×Bool)}{W:Bool}(h:nE m l G gd W)(x:I):nE (m+1) (x::l) G gd W:=by
 cases gd with
 |none=>exact h
 |some y=>
  obtain⟨wS,aa,ad⟩:=h
  exact⟨wS,wM x aa,ad⟩
theorem Ia{ee:Option Bool}{gd:Option (Acc×Bool)}{m:Nat}{env:List aD}{Γ:c0}{uj uk:List aD->c0->cI}(h:(zC ee gd m env Γ uj uk).p):
  ∃eY bU,aD.bT eY=aD.bT env/\cO bU=cO Γ/\eY.length=env.length/\(((uj eY bU).p/\nE m (aD.bT env) (cO Γ) gd true)\/((uk eY bU).p/\nE m (aD.bT env) (cO Γ) gd false)):=by
 unfold zC at h
 split at h
 · exact⟨env,Γ,rfl,rfl,rfl,.inl ⟨h,rfl⟩⟩
 · rename_i a b
   split at h
   · cases h
   · rename_i s hs
     have iB:gG m (aD.bT env) (cO Γ) a=some s.den:=by rw[<-ug,hs];rfl
     split at h
     · exact⟨env,Γ,rfl,rfl,rfl,.inr ⟨h,_,iB,rfl⟩⟩
     · obtain⟨af,ab⟩:=zA _ h
       have aA:=aD.oB af
       rcases ab with⟨aU,av⟩|⟨aU,av⟩
       · rw[aU] at aA
         obtain⟨ax,ay,bF⟩:=ui (x:=.iX) hs aA
         refine⟨_,_,ax,ay,bF,?_⟩
         have av:=nD (sG av)
         cases b with
         |true=>exact .inl ⟨av,_,iB,by rw[aA];rfl⟩
         |false=>exact .inr ⟨av,_,iB,by rw[aA];rfl⟩
       · rw[aU] at aA
         obtain⟨ax,ay,bF⟩:=ui (x:=.iY) hs aA
         refine⟨_,_,ax,ay,bF,?_⟩
         have av:=nD (sG av)
         cases b with
         |true=>exact .inr ⟨av,_,iB,by rw[aA];rfl⟩
         |false=>exact .inl ⟨av,_,iB,by rw[aA];rfl⟩
theorem CT{pl:j1}{key m:Nat}{env:List aD}{Γ:c0}{loc:List (Nat×Acc)}{o:Oper}{d:List bP}{q:bE}{h:J}{K:List aD->c0->oz}{dC:c0->oA}(ab:(wP P need inR call pl key m env Γ loc o d q h K dC).p):
  ∃eY bU,aD.bT eY=aD.bT env/\cO bU=cO Γ/\eY.length=env.length/\hv (dG P inR call none o (λx=>(gG m (aD.bT env) (cO Γ) (cL P need loc x)).getD .bad) d q h) (K eY bU) (dC bU):=by
 have ak:(λx=>(gG m (aD.bT env) (cO Γ) (cL P need loc x)).getD .bad)=λx=>(kj P need m env Γ loc x).den:=funext λx=>CR.symm
 unfold wP at ab
 split at ab
 · rename_i c a b a7
   split at ab
   · cases ab
   · rename_i s hs
     obtain⟨af,a2⟩:=zA _ ab
     have aA:=aD.oB af
     have zg:(kj P need m env Γ loc c).den=s.den:=by unfold kj;rw[hs]
     rw[ak]
     rcases a2 with⟨aU,av⟩|⟨aU,av⟩
     · rw[aU] at aA
       obtain⟨ax,ay,bF⟩:=ui (x:=.iX) hs aA
       exact⟨_,_,ax,ay,bF,hv.val (s:=kj P need m env Γ loc a) (by simp only[cA,a7,zg,aA]) (aD.lu (nD (sG av)))⟩
     · rw[aU] at aA
       obtain⟨ax,ay,bF⟩:=ui (x:=.iY) hs aA
       exact⟨_,_,ax,ay,bF,hv.val (s:=kj P need m env Γ loc b) (by simp only[cA,a7,zg,aA]) (aD.lu (nD (sG av)))⟩
 · rw[ak]
   exact⟨env,Γ,rfl,rfl,rfl,P3 ab⟩
theorem CU{r:aR}{s:Step}{rest:List Step}{env:List I}{d:List bP}{q:bE}{h:J}:js P need inR call r (s::rest) env d q h=match dG P inR call (s.guard.map λx=>(dF s.m env r x.1,x.2)) s.o (λx=>dF s.m env r (cL P need s.loc x)) d q h with
  |.ok v bx bG an=>js P need inR call r rest (v::env) bx bG an
  |.b1 v bx bG an=>.b1 v bx bG an
  |.fail w=>.fail w:=by
 obtain⟨gd,o,loc,m⟩:=s
 cases gd<;>rfl
theorem CV{pl:j1}{hE:Nat}:∀(l:List Step) (env:List aD) (Γ:c0) (d:List bP) (q:bE) (h:J) {K:List aD->c0->List bP->bE->J->cI} {dC:I->c0->List bP->bE->J->cI},(wQ P need inR call pl hE l env Γ d q h K dC).p->
  (∃eY bU bx bG an,(∀r,Mod r (cO Γ)->js P need inR call r l (aD.bT env) d q h=.ok (aD.bT eY) bx bG an)/\cO bU=cO Γ/\(K eY bU bx bG an).p)\/∃v bU bx bG an,(∀r,Mod r (cO Γ)->js P need inR call r l (aD.bT env) d q h=.b1 v bx bG an)/\cO bU=cO Γ/\(dC v bU bx bG an).p
 |[],env,Γ,d,q,h,K,dC,ab=>.inl ⟨env,Γ,d,q,h,λ_ _=>rfl,rfl,ab⟩
 |s::rest,env,Γ,d,q,h,K,dC,ab=>by
  simp only[wQ] at ab
  split at ab
  · cases ab
  · rename_i av
    have gN:∀r,Mod r (cO Γ)->∀gd,dG P inR call gd s.o (λx=>dF s.m (aD.bT env) r (cL P need s.loc x)) d q h=dG P inR call gd s.o (λx=>(gG s.m (aD.bT env) (cO Γ) (cL P need s.loc x)).getD .bad) d q h:=λr hm gd=>sb (CS hm (H_ av))
    obtain⟨m0,gb,ax,ay,bF,hw⟩:=Ia ab
    rcases hw with⟨hw,oC⟩|⟨hw,oC⟩
    · obtain⟨nF,Γ2,f1,f2,f3,a7⟩:=CT hw
      rw[ax,ay] at a7
      rcases a7 with⟨x,d1,aV,aa,he,du⟩|⟨v,d1,aV,aa,he,du⟩
      · have bd:=CV rest (x::nF) Γ2 d1 aV aa du
        have key:∀r,Mod r (cO Γ)->js P need inR call r (s::rest) (aD.bT env) d q h=js P need inR call r rest (aD.bT (x::nF)) d1 aV aa:=λr hm=>by
         rw[CU,gN r hm,ub (oC.ok hm),he]
         simp only[aD.bT,f1,ax]
        rw[f2,ay] at bd
        rcases bd with⟨eY,bU,bx,bG,an,i1,i2,i3⟩|⟨v,bU,bx,bG,an,i1,i2,i3⟩
        · exact .inl ⟨eY,bU,bx,bG,an,λr hm=>(key r hm).trans (i1 r hm),i2,i3⟩
        · exact .inr ⟨v,bU,bx,bG,an,λr hm=>(key r hm).trans (i1 r hm),i2,i3⟩
      · refine .inr ⟨v,Γ2,d1,aV,aa,λr hm=>?_,f2.trans ay,du⟩
        rw[CU,gN r hm,ub (oC.ok hm),he]
    · have bd:=CV rest (.v (.aP [])::m0) gb d q h hw
      have key:∀r,Mod r (cO Γ)->js P need inR call r (s::rest) (aD.bT env) d q h=js P need inR call r rest (aD.bT (.v (.aP [])::m0)) d q h:=λr hm=>by
       rw[CU,wy (oC.ok hm)]
       simp only[aD.bT,aD.den,ax]
      rw[ay] at bd
      rcases bd with⟨eY,bU,bx,bG,an,i1,i2,i3⟩|⟨v,bU,bx,bG,an,i1,i2,i3⟩
      · exact .inl ⟨eY,bU,bx,bG,an,λr hm=>(key r hm).trans (i1 r hm),i2,i3⟩
      · exact .inr ⟨v,bU,bx,bG,an,λr hm=>(key r hm).trans (i1 r hm),i2,i3⟩
theorem wT(t:Nat):∀Γ:c0,cO (sJ t Γ)=del t (cO Γ)
 |[]=>rfl
 |(u,s)::l=>by
  simp only[sJ,cO,del]
  cases Nat.beq t u with
  |true=>exact wT t l
  |false=>simp only[cO];rw[wT t l]
theorem CW{m:Nat}{env:List aD}{g8:aR}{e_:c0}(hm:Mod g8 (cO e_)):∀(l:List (Nat×Acc)) (r:aR) (Γ:c0),Mod r (cO Γ)->Mod (oV need m (aD.bT env) g8 l r) (cO (sK need m env e_ l Γ))
 |[],r,Γ,h=>h
 |(t,a)::l,r,Γ,h=>by
  have bd:=CW (m:=m) (env:=env) hm l r Γ h
  simp only[oV,sK]
  cases Nat.testBit need t with
  |false=>exact bd
  |true=>
   cases ak:lq m env e_ a with
   |some s=>
    have:gG m (aD.bT env) (cO e_) a=some s.den:=by rw[<-ug,ak];rfl
    simp only[cO,wT]
    rw[uh hm this];exact bd.put t s.den
   |none=>simp only[wT];exact bd.del t _
theorem CX:∀(l:List (Nat×Acc)) (r:aR) (Γ:c0),Mod r (cO Γ)->Mod (tu l r) (cO (wR l Γ))
 |[],r,Γ,h=>h
 |(t,a)::l,r,Γ,h=>by simp only[wR,wT];exact(CX l r Γ h).del t _
theorem Ib:∀(ops:List Oper) (n:Nat) (loc:List (Nat×Acc)) (fQ:List Nat) (k:Nat) (s:DStep),(eN ops n loc fQ)[k]? =some s->s.i=n+k
 |[],n,loc,fQ,k,s,h=>by simp[eN] at h
 |o::l,n,loc,fQ,0,s,h=>by simp only[eN,List.getElem?_cons_zero,Option.some.injEq] at h;rw[<-h];rfl
 |o::l,n,loc,fQ,k+1,s,h=>by
  simp only[eN,List.getElem?_cons_succ] at h
  have:=Ib l (n+1) _ _ k s h
  omega
def ur(P:Program)(need:Nat)(ops:Array Oper)(s:DStep)(n:Nat)(l:List I)(G:Env)(dy:List Nat)(H:Nat->J):Prop:=s.i<n/\(kindOf P s.o.op=.pure->(∀x∈s.o.op.operands,(gG n l G (cL P need s.loc x)).isSome=true)/\∀v gp,nth (n-1-s.i) l=some v->nth (n-1-s.i) dy=some gp->nE n l G (jr P need ops s.loc s.o) false\/(nE n l G (jr P need ops s.loc s.o) true/\∃an,cA P s.o (λx=>(gG n l G (cL P need s.loc x)).getD .bad) (H gp)=.val v an))
theorem P4{α:Type}{n i:Nat}(h:i<n)(x:α)(l:List α):nth (n+1-1-i) (x::l)=nth (n-1-i) l:=by
 have:n+1-1-i=(n-1-i)+1:=by omega
 rw[this];rfl
theorem Ic{α:Type}:∀(n:Nat) (l:List α) (x:α),nth n l=some x->x∈l
 |0,[],_,h=>by cases h
 |_+1,[],_,h=>by cases h
 |0,y::l,x,h=>by cases h;exact List.mem_cons_self
 |n+1,y::l,x,h=>List.mem_cons_of_mem _ (Ic n l x h)
theorem ur.more{ops:Array Oper}{s:DStep}{n:Nat}{l:List I}{G:Env}{dy:List Nat}{H aT:Nat->J}(h:ur P need ops s n l G dy H)(x:I)(y:Nat)(cS:∀gp∈dy,aT gp=H gp):ur P need ops s (n+1) (x::l) G (y::dy) aT:=by
 obtain⟨aa,ad⟩:=h
 refine⟨by omega,λav=>?_⟩
 obtain⟨bQ,cl⟩:=ad av
 refine⟨λz a4=>?_,λv gp aC lv=>?_⟩
 · obtain⟨w,hw⟩:=Option.isSome_iff_exists.1 (bQ z a4)
   rw[wM x hw];rfl
 · rw[P4 aa] at aC lv
   rcases cl v gp aC lv with e|⟨dt,an,e⟩
   · exact .inl (e.more x)
   · have P5:=Ic _ _ _ lv
     refine .inr ⟨dt.more x,an,?_⟩
     rw[cS gp P5,<-e]
     exact we s.o _ λz a4=>by
      obtain⟨w,hw⟩:=Option.isSome_iff_exists.1 (bQ z a4)
      rw[wM x hw,hw]
end
end aB
namespace aB
open Go
section
variable {P:Program} {need:Nat} {inR:Bool} {call:aF->List I->J->ao}
theorem zE:∀l:List aD,(aD.bT l).length=l.length
 |[]=>rfl
 |_::l=>by simp only[aD.bT,List.length_cons,zE l]
structure l8(P:Program)(need:Nat)(ops:Array Oper)(pre:List DStep)(env:List aD)(dy:List Nat)(Γ:c0)(h:J)(cn:Nat)(a1:l7)(H:Nat->J):Prop where
 cur:H cn=h
 le:∀gp∈dy,gp<=cn
 st:∀z∈a1,z.2.2.2<=cn/\H z.2.2.2=z.2.2.1
 pl:pre.length=env.length
 seen:∀s∈pre,ur P need ops s env.length (aD.bT env) (cO Γ) dy H
theorem l8.push{ops:Array Oper}{pre:List DStep}{env eY:List aD}{dy:List Nat}{Γ bU:c0}{h an:J}{cn kk:Nat}{a1 qS:l7}{H aT:Nat->J}(w:l8 P need ops pre env dy Γ h cn a1 H){s:DStep}{v:aD}(ae:s.i=env.length)(ax:aD.bT eY=aD.bT env)(ay:cO bU=cO Γ)(bF:eY.length=env.length)
  (cS:∀k,k<=cn->aT k=H k)(aC:cn<=kk)(ag:aT kk=an)(hs:∀z∈qS,z.2.2.2<=kk/\aT z.2.2.2=z.2.2.1)
  (a_:kindOf P s.o.op=.pure->(∀x∈s.o.op.operands,(gG s.i (aD.bT env) (cO Γ) (cL P need s.loc x)).isSome=true)/\(nE s.i (aD.bT env) (cO Γ) (jr P need ops s.loc s.o) false\/(nE s.i (aD.bT env) (cO Γ) (jr P need ops s.loc s.o) true/\∃iF,cA P s.o (λx=>(gG s.i (aD.bT env) (cO Γ) (cL P need s.loc x)).getD .bad) h=.val v.den iF))):
  l8 P need ops (pre++[s]) (v::eY) (cn::dy) bU an kk qS aT:=by
 refine⟨ag,λgp lv=>?_,hs,by simp[w.pl,bF],λz a4=>?_⟩
 · rcases List.mem_cons.1 lv with rfl|lv
   · exact aC
   · exact Nat.le_trans (w.le gp lv) aC
 · rw[List.length_cons,bF,ay]
   simp only[aD.bT,ax]
   rcases List.mem_append.1 a4 with a4|a4
   · exact(w.seen z a4).more _ _ λgp lv=>cS gp (w.le gp lv)
   · obtain rfl:z=s:=by simpa using a4
     refine⟨by omega,λav=>?_⟩
     obtain⟨bQ,cl⟩:=a_ av
     rw[ae] at bQ cl
     refine⟨λx ab=>?_,λu gp hu lv=>?_⟩
     · obtain⟨y,a2⟩:=Option.isSome_iff_exists.1 (bQ x ab)
       rw[wM _ a2];rfl
     · have h0:env.length+1-1-z.i=0:=by omega
       rw[h0] at hu lv
       cases hu;cases lv
       rcases cl with cl|⟨iR,iF,cl⟩
       · exact .inl (cl.more _)
       · refine .inr ⟨iR.more _,iF,?_⟩
         rw[cS cn (Nat.le_refl _),w.cur,<-cl]
         exact we _ _ λx ab=>by
          obtain⟨y,a2⟩:=Option.isSome_iff_exists.1 (bQ x ab)
          rw[wM _ a2,a2]
theorem wU{ops:Array Oper}{r:aR}{n:Nat}{env:List I}{s:DStep}:gi P need ops r n env s=(jr P need ops s.loc s.o).map λx=>(dF n env r x.1,x.2):=by
 unfold gi
 cases jr P need ops s.loc s.o<;>rfl
def Ie:e5->Prop
 |.val _ _=>True
 |.b1 _ _=>True
 |.fail _=>True
 |_=>False
theorem P6{o:Oper}{g:Operand->I}{H:J}(av:kindOf P o.op=.pure):Ie (cA P o g H):=by
 have gm:∀(w:String) (x:Option I),Ie (fp H w x):=λw x=>by cases x<;>trivial
 obtain⟨dst,op,type,pos,after,guard⟩:=o
 cases op<;>simp only[kindOf] at av<;>(try (cases av;done))<;>unfold cA<;>simp only
 case binOp=>exact gm _ _
 case slice=>exact gm _ _
 case lookup=>exact gm _ _
 case convert s d x=>
  have dk:∀e,P.underlying d≠some (.slice e):=λe he=>by rw[he] at av;cases av
  unfold et
  repeat' (first|trivial|exact absurd (by assumption) (dk _)|split)
 case call c=>
  cases ag:c.callee with
  |value f=>rw[ag] at av;cases av
  |invoke r n=>rw[ag] at av;cases av
  |builtin b=>
   rw[ag] at av
   cases b<;>simp only at av<;>(try (cases av;done))<;>simp only[hP]<;>repeat' (first|trivial|exact gm _ _|split)
 all_goals repeat' (first|trivial|exact gm _ _|split)
theorem P7{o:Oper}{g:Operand->I}{d d1:List bP}{q aV:bE}{h aa:J}{v:I}(av:kindOf P o.op=.pure)(e:dG P inR call none o g d q h=.ok v d1 aV aa):∃an,cA P o g h=.val v an:=by
 have aC:=P6 (P:=P) (g:=g) (H:=h) av
 unfold dG at e
 simp only[eb] at e
 cases a7:cA P o g h<;>rw[a7] at e aC<;>first|(exact aC.elim)|(cases e;done)|(cases e;exact⟨_,rfl⟩)
theorem P8{op:Op}{g:Operand->aD}{b:Nat}{K:aD->cp->cI}(h:(CQ P op g b K).p):∃s o,ju P op (λx=>(g x).den) b=some (aD.den s,o)/\(K s o).p:=by
 unfold CQ at h
 split at h
 · rename_i e x
   obtain⟨ax,ay,k⟩:=CN (aD.lu h)
   exact⟨_,_,by simp only[ju,ax,ay];rfl,k⟩
 · rename_i t l c
   split at h
   · obtain⟨z,a4,k⟩:=h
     exact⟨_,_,Ho (op:=.makeSlice t l c) (v:=aD.den (.v _)) a4,k⟩
   · cases h
 · rename_i t len parts
   split at h
   · obtain⟨e,sz,z,cs,hu,hs,a4,aa,hf,ag,k⟩:=H7 h
     rw[H8] at hf
     exact⟨.v _,_,by simp only[ju,hu,hs,a4,aa,hf,ag];rfl,k⟩
   · split at h
     · rename_i v o aC
       exact⟨.v v,o,aC,h⟩
     · cases h
 · split at h
   · rename_i v o aC
     exact⟨.v v,o,aC,h⟩
   · cases h
def pr(H:Nat->J)(k:Nat)(h:J)(j:Nat):J:=if j=k then h else H j
def oD(P:Program)(need:Nat)(inR:Bool)(call:aF->List I->J->ao)(ops:Array Oper)(cE:Nat)(full l:List DStep)(env:List aD)(G:Env)(d:List bP)(q:bE)(h:J)(a1:l7)(K:qQ)(dC:I->qQ):Prop:=
 (∃eY qT bU bx bG an kk qS aT,(∀r,Mod r G->fG P need inR call ops r cE l (aD.bT env) d q h (hF a1)=.ok (aD.bT eY) bx bG an (hF qS))/\cO bU=G/\l8 P need ops full eY qT bU an kk qS aT/\(K eY qT bU bx bG an kk qS).p)\/
 ∃v eY qT bU bx bG an kk e m h0 uu qF aT wV,(∀r,Mod r G->fG P need inR call ops r cE l (aD.bT env) d q h (hF a1)=.b1 v (aD.bT eY) bx bG an (hF ((e,m,h0,uu)::qF)))/\cO bU=G/\l8 P need ops wV eY qT bU h0 uu qF aT/\(∃post,full=wV++post)/\(dC v eY qT bU bx bG an kk ((e,m,h0,uu)::qF)).p
theorem oD.trans{ops:Array Oper}{cE:Nat}{full l bB:List DStep}{env nF:List aD}{G:Env}{d d2:List bP}{q aY:bE}{h ad:J}{a1 Ig:l7}{K:qQ}{dC:I->qQ}(av:∀r,Mod r G->fG P need inR call ops r cE l (aD.bT env) d q h (hF a1)=fG P need inR call ops r cE bB (aD.bT nF) d2 aY ad (hF Ig))(he:oD P need inR call ops cE full bB nF G d2 aY ad Ig K dC):oD P need inR call ops cE full l env G d q h a1 K dC:=by
 rcases he with⟨c9,dJ,gA,iZ,km,uv,CY,CZ,C0,a8,bu,cU,h5⟩|⟨c9,dJ,gA,iZ,km,uv,CY,CZ,C0,a5,bt,dP,kn,qU,ko,a8,bu,cU,h5,zF⟩
 · exact .inl ⟨c9,dJ,gA,iZ,km,uv,CY,CZ,C0,λr hm=>(av r hm).trans (a8 r hm),bu,cU,h5⟩
 · exact .inr ⟨c9,dJ,gA,iZ,km,uv,CY,CZ,C0,a5,bt,dP,kn,qU,ko,λr hm=>(av r hm).trans (a8 r hm),bu,cU,h5,zF⟩
theorem sL{ops:Array Oper}{r:aR}{cE:Nat}{s:DStep}{rest:List DStep}{env:List I}{d:List bP}{q:bE}{h:J}{a1:mU}:fG P need inR call ops r cE (s::rest) env d q h a1=
  match kindOf P s.o.op with
  |.alloc=>match eb (gi P need ops r s.i env s) with
   |none=>.fail ("guard " ++s.o.pos)
   |some false=>fG P need inR call ops r cE rest (.aP []::env) d q h a1
   |some true=>match ju P s.o.op (λx=>dF s.i env r (cL P need s.loc x)) (cE+s.i) with
    |some (v,o)=>fG P need inR call ops r cE rest (v::env) d q (h.set (cE+s.i) (some o)) a1
    |none=>.fail ("alloc " ++s.o.pos)
  |.pure=>match dG P inR call (gi P need ops r s.i env s) s.o (λx=>dF s.i env r (cL P need s.loc x)) d q h with
   |.ok v _ _ _=>fG P need inR call ops r cE rest (v::env) d q h a1
   |.b1 _ _ _ _=>.fail ("pure " ++s.o.pos)
   |.fail w=>.fail w
  |.dS=>match sj s a1 with
   |false=>.fail ("order " ++s.o.pos)
   |true=>match dG P inR call (gi P need ops r s.i env s) s.o (λx=>dF s.i env r (cL P need s.loc x)) d q h with
    |.ok v bx bG an=>fG P need inR call ops r cE rest (v::env) bx bG an ((s.i,s.eE,h)::a1)
    |.b1 v bx bG an=>match rest.all (λbC=>Nat.testBit bC.eE s.i) with
     |true=>.b1 v env bx bG an ((s.i,s.eE,h)::a1)
     |false=>.fail ("panic " ++s.o.pos)
    |.fail w=>.fail w:=by
 cases a1<;>rfl
theorem sM{pl:j1}{hE:Nat}{ops:Array Oper}{cE:Nat}{full:List DStep}(oE:∀(k:Nat) (s:DStep),full[k]? =some s->s.i=k){K:qQ}{dC:I->qQ}:∀(l pre:List DStep) (env:List aD) (dy:List Nat) (Γ:c0) (d:List bP) (q:bE) (h:J) (cn:Nat) (a1:l7) (H:Nat->J),full=pre++l->l8 P need ops pre env dy Γ h cn a1 H->(qR P need inR call pl hE ops cE l env dy Γ d q h cn a1 K dC).p->oD P need inR call ops cE full l env (cO Γ) d q h a1 K dC
 |[],pre,env,dy,Γ,d,q,h,cn,a1,H,hf,w,ab=>by
  rw[List.append_nil] at hf
  subst hf
  exact .inl ⟨env,dy,Γ,d,q,h,cn,a1,H,λ_ _=>rfl,rfl,w,ab⟩
 |s::rest,pre,env,dy,Γ,d,q,h,cn,a1,H,hf,w,ab=>by
  have ae:s.i=env.length:=by
   rw[<-w.pl]
   exact oE pre.length s (by rw[hf];simp)
  have uw:full=(pre++[s])++rest:=by rw[hf];simp
  simp only[qR] at ab
  split at ab
  · cases ab
  · rename_i av
    have sN:=H_ av
    have ak:∀r,Mod r (cO Γ)->∀x∈s.o.op.operands,dF s.i (aD.bT env) r (cL P need s.loc x)=(gG s.i (aD.bT env) (cO Γ) (cL P need s.loc x)).getD .bad:=λr hm=>CS hm sN
    have gN:∀r,Mod r (cO Γ)->∀gd,dG P inR call gd s.o (λx=>dF s.i (aD.bT env) r (cL P need s.loc x)) d q h=dG P inR call gd s.o (λx=>(gG s.i (aD.bT env) (cO Γ) (cL P need s.loc x)).getD .bad) d q h:=λr hm gd=>sb (ak r hm)
    obtain⟨m0,gb,ax,ay,bF,hw⟩:=Ia ab
    have jY:∀z∈a1,z.2.2.2<=cn/\H z.2.2.2=z.2.2.1:=w.st
    rcases hw with⟨hw,oC⟩|⟨hw,oC⟩
    · have qV:∀r,Mod r (cO Γ)->eb (gi P need ops r s.i (aD.bT env) s)=some true:=λr hm=>by rw[wU];exact oC.ok hm
      split at hw
      · rename_i gF
        obtain⟨v,o,ba,du⟩:=P8 hw
        have P9:ju P s.o.op (λx=>(gG s.i (aD.bT env) (cO Γ) (cL P need s.loc x)).getD .bad) (cE+s.i)=some (v.den,o):=by
         rw[<-ba];congr 1;exact funext λx=>by rw[CR,ax,ay]
        have cT:l8 P need ops (pre++[s]) (v::m0) (cn::dy) gb (h.set (cE+s.i) (some o)) (cn+1) a1 (pr H (cn+1) (h.set (cE+s.i) (some o))):=
         w.push ae ax ay bF (λk av=>by unfold pr;rw[if_neg (by omega)]) (by omega) (by unfold pr;rw[if_pos rfl]) (λz a4=>by
          obtain⟨dn,fj⟩:=jY z a4
          exact⟨by omega,by unfold pr;rw[if_neg (by omega)];exact fj⟩) (λa_=>by rw[gF] at a_;cases a_)
        have bd:=sM oE rest (pre++[s]) (v::m0) (cn::dy) gb d q _ (cn+1) a1 _ uw cT du
        rw[ay] at bd
        refine oD.trans (λr hm=>?_) bd
        rw[sL,gF]
        simp only[qV r hm]
        rw[wg _ _ (ak r hm),P9]
        simp only[aD.bT,ax]
      · rename_i gF
        obtain⟨nF,Γ2,f1,f2,f3,a7⟩:=CT hw
        rw[ax,ay] at a7
        rcases a7 with⟨x,d1,aV,aa,he,du⟩|⟨v,d1,aV,aa,he,du⟩
        · have fS:=P7 gF he
          have cT:l8 P need ops (pre++[s]) (x::nF) (cn::dy) Γ2 h cn a1 H:=
           w.push ae (f1.trans ax) (f2.trans ay) (f3.trans bF) (λk av=>rfl) (Nat.le_refl _) w.cur jY (λ_=>⟨sN,.inr ⟨oC,fS⟩⟩)
          have bd:=sM oE rest (pre++[s]) (x::nF) (cn::dy) Γ2 d q h cn a1 H uw cT du
          rw[f2,ay] at bd
          refine oD.trans (λr hm=>?_) bd
          rw[sL,gF]
          simp only
          rw[gN r hm,ub (qV r hm),he]
          simp only[aD.bT,f1,ax]
        · cases du
      · rename_i gF
        split at hw
        · cases hw
        · rename_i kJ
          obtain⟨nF,Γ2,f1,f2,f3,a7⟩:=CT hw
          rw[ax,ay] at a7
          rcases a7 with⟨x,d1,aV,aa,he,du⟩|⟨v,d1,aV,aa,he,du⟩
          · have cT:l8 P need ops (pre++[s]) (x::nF) (cn::dy) Γ2 aa (cn+1) ((s.i,s.eE,h,cn)::a1) (pr H (cn+1) aa):=
              w.push ae (f1.trans ax) (f2.trans ay) (f3.trans bF) (λk av=>by unfold pr;rw[if_neg (by omega)]) (by omega) (by unfold pr;rw[if_pos rfl]) (λz a4=>by
               rcases List.mem_cons.1 a4 with rfl|a4
               · exact⟨by simp,by unfold pr;rw[if_neg (by simp)];exact w.cur⟩
               · obtain⟨dn,fj⟩:=jY z a4
                 exact⟨by omega,by unfold pr;rw[if_neg (by omega)];exact fj⟩) (λa_=>by rw[gF] at a_;cases a_)
            have bd:=sM oE rest (pre++[s]) (x::nF) (cn::dy) Γ2 d1 aV aa (cn+1) _ _ uw cT du
            rw[f2,ay] at bd
            refine oD.trans (λr hm=>?_) bd
            rw[sL,gF]
            simp only[kJ]
            rw[gN r hm,ub (qV r hm),he]
            simp only[aD.bT,f1,ax,hF]
          · split at du
            · rename_i e7
              refine .inr ⟨v,m0,dy,Γ2,d1,aV,aa,cn+1,s.i,s.eE,h,cn,a1,H,pre,λr hm=>?_,f2.trans ay,?_,⟨_,hf⟩,du⟩
              · rw[sL,gF]
                simp only[kJ]
                rw[gN r hm,ub (qV r hm),he]
                simp only[e7,hF,ax]
              · exact⟨w.cur,w.le,w.st,w.pl.trans bF.symm,by rw[f2,ay,ax,bF];exact w.seen⟩
            · cases du
    · have qV:∀r,Mod r (cO Γ)->eb (gi P need ops r s.i (aD.bT env) s)=some false:=λr hm=>by rw[wU];exact oC.ok hm
      cases gF:kindOf P s.o.op with
      |dS=>
       rw[gF] at hw
       simp only at hw
       split at hw
       · cases hw
       · rename_i kJ
         have cT:l8 P need ops (pre++[s]) (.v (.aP [])::m0) (cn::dy) gb h cn ((s.i,s.eE,h,cn)::a1) H:=
          w.push ae ax ay bF (λk av=>rfl) (Nat.le_refl _) w.cur (λz a4=>by
           rcases List.mem_cons.1 a4 with rfl|a4
           · exact⟨Nat.le_refl _,w.cur⟩
           · exact jY z a4) (λa_=>by rw[gF] at a_;cases a_)
         have bd:=sM oE rest (pre++[s]) (.v (.aP [])::m0) (cn::dy) gb d q h cn _ H uw cT hw
         rw[ay] at bd
         refine oD.trans (λr hm=>?_) bd
         rw[sL,gF]
         simp only[kJ]
         rw[wy (qV r hm)]
         simp only[aD.bT,aD.den,ax,hF]
      |alloc=>
       rw[gF] at hw
       simp only at hw
       have cT:l8 P need ops (pre++[s]) (.v (.aP [])::m0) (cn::dy) gb h cn a1 H:=
        w.push ae ax ay bF (λk av=>rfl) (Nat.le_refl _) w.cur jY (λa_=>by rw[gF] at a_;cases a_)
       have bd:=sM oE rest (pre++[s]) (.v (.aP [])::m0) (cn::dy) gb d q h cn a1 H uw cT hw
       rw[ay] at bd
       refine oD.trans (λr hm=>?_) bd
       rw[sL,gF]
       simp only[qV r hm]
       simp only[aD.bT,aD.den,ax]
      |pure=>
       rw[gF] at hw
       simp only at hw
       have cT:l8 P need ops (pre++[s]) (.v (.aP [])::m0) (cn::dy) gb h cn a1 H:=
        w.push ae ax ay bF (λk av=>rfl) (Nat.le_refl _) w.cur jY (λ_=>⟨sN,.inl oC⟩)
       have bd:=sM oE rest (pre++[s]) (.v (.aP [])::m0) (cn::dy) gb d q h cn a1 H uw cT hw
       rw[ay] at bd
       refine oD.trans (λr hm=>?_) bd
       rw[sL,gF]
       simp only
       rw[wy (qV r hm)]
       simp only[aD.bT,aD.den,ax]
end
end aB
namespace aB
open Go
section
variable {P:Program} {need:Nat} {inR:Bool} {call:aF->List I->J->ao}
theorem P_{o:Oper}{g:Operand->aD}(aq:zD P o g=true){h aa:J}{v:I}(e:cA P o (λx=>(g x).den) h=.val v aa)(an:J):∃ad,cA P o (λx=>(g x).den) an=.val v ad:=by
 have gm:∀{w:String} {x:Option I},fp h w x=.val v aa->∃ad,fp an w x=.val v ad:=λ{w x} e=>by
  cases x with
  |none=>cases e
  |some y=>cases e;exact⟨_,rfl⟩
 obtain⟨dst,op,type,pos,after,guard⟩:=o
 cases op<;>simp only[zD] at aq<;>(try (cases aq;done))<;>unfold cA at e⊢ <;>simp only at e⊢
 case binOp op t x y yt=>
  split at aq
  · rename_i k a ff b ab a2
    rw[ab,a2] at e⊢
    simp only[aD.den,ej] at e⊢
    exact gm e
  · rename_i a b ab a2
    rw[ab,a2] at e⊢
    simp only[aD.den,ej] at e⊢
    exact gm e
  · rw[Bool.and_eq_true] at aq
    rw[aD.oB aq.1,aD.oB aq.2] at e⊢
    have aj:ej P an op t x y (.bool (g x).j0) (.bool (g y).j0)=ej P h op t x y (.bool (g x).j0) (.bool (g y).j0):=by
     simp only[ej,hz]
    rw[aj];exact gm e
 case call c=>
  split at aq
  · rename_i ag
    rw[ag] at e⊢
    simp only[hP] at e⊢
    split at aq
    · rename_i t aU
      rw[aU] at e⊢
      cases gZ:c.args.toList.map λx=>(g x).den with
      |nil=>rw[gZ] at e;cases e
      |cons x l=>
       rw[gZ] at e
       cases l with
       |nil=>
        simp only at e⊢
        split at aq
        · rename_i el hu
          simp only[bO,hu] at e⊢
          cases x<;>simp only at e⊢ <;>exact gm e
        · rename_i hu
          simp only[bO,hu] at e⊢
          cases x<;>simp only at e⊢ <;>exact gm e
        · cases aq
       |cons y l=>
        cases l with
        |nil=>simp only at e;cases e
        |cons z l=>simp only at e;cases e
    · cases aq
  · cases aq
 case typeAssert=>repeat' (first|contradiction|exact gm e|(cases e;done)|(cases e;exact⟨_,rfl⟩)|(cases e;simp_all;done)|split at e)
 all_goals repeat' (first|contradiction|exact gm e|(cases e;exact⟨_,rfl⟩)|(rw[if_pos (by assumption)];first|exact gm e|(cases e;exact⟨_,rfl⟩))|(cases e;done)|split at e)
theorem Ih{K:cI}:∀(l:List aD),(um l K).p->iC (aD.bT l)=true/\K.p
 |[],h=>⟨rfl,h⟩
 |s::l,h=>by
  have key:s.den.sound=true/\(um l K).p:=by
   cases s<;>simp only[um] at h<;>first|exact h|(split at h<;>first|exact⟨by assumption,h⟩|cases h)
  obtain⟨bQ,cl⟩:=Ih l key.2
  exact⟨by simp only[aD.bT,iC,key.1,bQ,Bool.and_true],cl⟩
theorem Ii{s:aD}{K:cI}(h:(CP s K).p):s.den.sound=true/\K.p:=by
 cases s<;>simp only[CP] at h<;>first|exact⟨rfl,h⟩|exact h|skip
 all_goals first
  |exact Ih _ h
  |(split at h
    · rename_i hs;exact⟨hs,h⟩
    · cases h)
theorem wW{o:Oper}{g:Operand->I}{v:I}{qP:Bool}{K:cI}:∀(l:List (Option J)),(uq P o g v qP l K).p->K.p/\(qP=false->∀h,some h∈l->ny P o g h v)
 |[],h=>⟨h,λ_ _ hm=>by cases hm⟩
 |none::l,h=>by
  obtain⟨aa,ad⟩:=wW l h
  exact⟨aa,λaI an hm=>by
   rcases List.mem_cons.1 hm with e|hm
   · cases e
   · exact ad aI an hm⟩
 |some x::l,h=>by
  simp only[uq] at h
  cases qP with
  |true=>
   obtain⟨aa,ad⟩:=wW l h
   exact⟨aa,λaI=>by cases aI⟩
  |false=>
   obtain⟨h0,h⟩:=h
   obtain⟨aa,ad⟩:=wW l h
   exact⟨aa,λaI an hm=>by
    rcases List.mem_cons.1 hm with e|hm
    · cases e;exact h0
    · exact ad aI an hm⟩
theorem Ij{ops:Array Oper}{r:aR}{n:Nat}{env:List I}{s:DStep}{v:I}{gp:Nat}{H:Nat->J}:∀(a1:l7) (dI:Option Nat) (h:J) (cn:Nat),H cn=h->(∀z∈a1,H z.2.2.2=z.2.2.1)->(∀o∈uo s gp dI h cn a1,k4 P need ops r n env s v (match o with|none=>H gp|some h=>h)=true)->kd P need ops r n env s v dI h (hF a1)=true
 |[],dI,h,cn,aj,hs,aq=>by
  simp only[hF]
  rw[zh]
  simp only[uo] at aq
  cases af:pg s dI [] with
  |true=>rfl
  |false=>
   rw[show pg s dI (hF [])=false from af] at aq
   simp only[Bool.and_true]
   cases aC:Nat.beq cn gp with
   |true=>
    have:=aq none (by rw[aC];simp)
    obtain rfl:=Nat.eq_of_beq_eq_true aC
    rw[<-aj];exact this
   |false=>exact aq (some h) (by rw[aC];simp)
 |(e,m,an,kk)::rest,dI,h,cn,aj,hs,aq=>by
  simp only[hF]
  rw[zh]
  simp only[uo] at aq
  have bd:=Ij (ops:=ops) (r:=r) (n:=n) (env:=env) (v:=v) rest (some e) an kk (hs _ List.mem_cons_self) (λz a4=>hs z (List.mem_cons_of_mem _ a4)) λo a7=>aq o (List.mem_append.2 (.inr a7))
  simp only[]
  rw[bd,Bool.and_true]
  cases af:pg s dI ((e,m,an)::hF rest) with
  |true=>rfl
  |false=>
   rw[show pg s dI (hF ((e,m,an,kk)::rest))=false from af] at aq
   simp only
   cases aC:Nat.beq cn gp with
   |true=>
    have:=aq none (List.mem_append.2 (.inl (by rw[aC];simp)))
    obtain rfl:=Nat.eq_of_beq_eq_true aC
    rw[<-aj];exact this
   |false=>exact aq (some h) (List.mem_append.2 (.inl (by rw[aC];simp)))
theorem C1{ops:Array Oper}{r:aR}{n:Nat}{env:List aD}{dy:List Nat}{Γ:c0}(hm:Mod r (cO Γ)){last:Option Nat}{h:J}{cn:Nat}{a1:l7}{H:Nat->J}(cS:H cn=h)(cf:∀z∈a1,H z.2.2.2=z.2.2.1){K:cI}:∀(l:List DStep),(∀s∈l,s.i<n->ur P need ops s n (aD.bT env) (cO Γ) dy H)->(kP P need ops n env dy Γ last h cn a1 l K).p->kz P need ops r n (aD.bT env) last h (hF a1) l=true
 |[],_,_=>rfl
 |s::rest,hs,ab=>by
  simp only[kz]
  simp only[kP] at ab
  have yc:=λ(k:(kP P need ops n env dy Γ last h cn a1 rest K).p)=>C1 hm cS cf rest (λz a4=>hs z (List.mem_cons_of_mem _ a4)) k
  split at ab
  · rename_i af gF
    have ae:s.i<n:=by simpa using af
    obtain⟨_,Qa⟩:=hs s List.mem_cons_self ae
    obtain⟨sN,mM⟩:=Qa gF
    rw[af,gF]
    simp only
    split at ab
    · rename_i v gp aC lv
      have Ik:nth (n-1-s.i) (aD.bT env)=some v.den:=HZ _ _ _ aC
      rw[Ik]
      simp only[Option.getD_some]
      have fin:∀(av:(kP P need ops n env dy Γ last h cn a1 rest K).p),(∀o∈uo s gp last h cn a1,k4 P need ops r n (aD.bT env) s v.den (match o with|none=>H gp|some h=>h)=true)->(kd P need ops r n (aD.bT env) s v.den last h (hF a1)&&kz P need ops r n (aD.bT env) last h (hF a1) rest)=true:=λav a7=>by
       rw[yc av,Bool.and_true]
       exact Ij a1 last h cn cS cf a7
      split at ab
      · rename_i r5
        exact fin ab λo a7=>by rw[r5] at a7;cases a7
      · split at ab
        ·
         have C2:eb (gi P need ops r n (aD.bT env) s)=some false->∀an,k4 P need ops r n (aD.bT env) s (aD.den (.v (.aP []))) an=true:=λhw an=>by
          unfold k4;rw[hw]
         split at ab
         · rename_i a b wO
           have aA:∀(x:aD),lq n env Γ a=some x->gi P need ops r n (aD.bT env) s=some (x.den,b):=λx ab=>by
            have iB:gG n (aD.bT env) (cO Γ) a=some x.den:=by rw[<-ug,ab];rfl
            rw[wU,wO]
            simp only[Option.map_some,uh hm iB]
           split at ab
           · rename_i sd
             exact fin ab λo _=>C2 (by rw[aA _ sd];rfl) _
           · rename_i sd
             cases b with
             |false=>exact fin ab λo _=>C2 (by rw[aA _ sd];rfl) _
             |true=>cases ab
           · rename_i sd
             cases b with
             |true=>exact fin ab λo _=>C2 (by rw[aA _ sd];rfl) _
             |false=>cases ab
           · cases ab
         · cases ab
        · rename_i dk
          obtain⟨eK,ab⟩:=Ii ab
          obtain⟨ab,Qb⟩:=wW _ ab
          have gC:(λx=>(kj P need n env Γ s.loc x).den)=λx=>(gG n (aD.bT env) (cO Γ) (cL P need s.loc x)).getD .bad:=funext λx=>CR
          refine fin ab λo a7=>?_
          rcases mM v.den gp Ik lv with e|⟨dt,e⟩
          · have hw:eb (gi P need ops r n (aD.bT env) s)=some false:=by rw[wU];exact e.ok hm
            unfold k4;rw[hw]
          · have hw:eb (gi P need ops r n (aD.bT env) s)=some true:=by rw[wU];exact dt.ok hm
            have look:∀an,(∃iF,cA P s.o (λx=>(kj P need n env Γ s.loc x).den) an=.val v.den iF)->k4 P need ops r n (aD.bT env) s v.den an=true:=λan ⟨iF,e⟩=>by
             have Qc:cA P s.o (λx=>dF n (aD.bT env) r (cL P need s.loc x)) an=.val v.den iF:=by
              rw[<-e,gC]
              exact we s.o an (CS hm sN)
             unfold k4
             simp only[hw,Qc]
             exact sn _ eK
            rw[<-gC] at e
            cases o with
            |none=>exact look _ e
            |some an=>
             refine look an ?_
             cases aj:zD P s.o (kj P need n env Γ s.loc) with
             |true=>
              obtain⟨aa,e⟩:=e
              exact P_ aj e an
             |false=>exact⟨an,sm (Qb aj an a7)⟩
    · cases ab
  · rename_i r_
    have ab:=yc ab
    rw[ab,Bool.and_true]
    cases af:Nat.blt s.i n with
    |false=>rfl
    |true=>
     cases av:kindOf P s.o.op with
     |pure=>exact absurd av (r_ af)
     |alloc=>rfl
     |dS=>rfl
theorem C3{ops:Array Oper}{n:Nat}{env:List aD}{dy:List Nat}{Γ:c0}{last:Option Nat}{h:J}{cn:Nat}{a1:l7}{K:cI}:∀(l:List DStep),(kP P need ops n env dy Γ last h cn a1 l K).p->K.p
 |[],ab=>ab
 |s::rest,ab=>by
  have bd:(kP P need ops n env dy Γ last h cn a1 rest K).p->K.p:=λk=>C3 rest k
  simp only[kP] at ab
  split at ab
  · split at ab
    · split at ab
      · exact bd ab
      · split at ab
        · split at ab
          · split at ab
            · exact bd ab
            · split at ab
              · exact bd ab
              · cases ab
            · split at ab
              · exact bd ab
              · cases ab
            · cases ab
          · cases ab
        · exact bd (wW _ (Ii ab).2).1
    · cases ab
  · exact bd ab
def Il(P:Program)(need:Nat)(inR:Bool)(call:aF->List I->J->ao)(pl:j1)(hE:Nat)(ops:Array Oper)(Γ:c0)(d:List bP)(q:bE)(h:J)(K:bw->c0->List bP->bE->J->cI):cI:=
 qR P need inR call pl hE ops h.n (eN ops.toList 0 [] []) [] [] Γ d q (h.room ops.size) 0 []
  (λenv dy Γ d q h cn a1=>kP P need ops env.length env dy Γ none h cn a1 (eN ops.toList 0 [] []) (mY (sK need env.length env Γ (hX ops.toList 0 []) Γ) λΓ=>K .nrm Γ d q h))
  (λv env dy Γ d q h cn a1=>match a1 with
   |(e,m,h0,uu)::a1=>kP P need ops env.length env dy Γ (some e) h0 uu a1 (eN ops.toList 0 [] []) (mY (wR (hX ops.toList 0 []) Γ) λΓ=>K (.b1 v) Γ d q h)
   |[]=>bad "a panic")
def C4(P:Program)(need:Nat)(rd:Option Nat)(call:aF->List I->J->ao)(c:Code)(Γ:c0)(d:List bP)(q:bE)(h:J)(K:bw->c0->List bP->bE->J->cI):Prop:=∃e bU bx bG an,cC P need rd call c ⟨cO Γ,d,q,h⟩ e ⟨cO bU,bx,bG,an⟩/\(K e bU bx bG an).p
theorem Qd{rd:Option Nat}{pl:j1}{hE:Nat}{ops:Array Oper}{Γ:c0}{d:List bP}{q:bE}{h:J}{K:bw->c0->List bP->bE->J->cI}(ab:(Il P need rd.isSome call pl hE ops Γ d q h K).p):C4 P need rd call (.region hE ops true) Γ d q h K:=by
 have oE:∀(k:Nat) (s:DStep),(eN ops.toList 0 [] [])[k]? =some s->s.i=k:=λk s hs=>by have:=Ib _ _ _ _ _ _ hs;omega
 have iS:l8 P need ops [] [] [] Γ (h.room ops.size) 0 [] (λ_=>h.room ops.size):=⟨rfl,λ_ hm=>(by cases hm),λ_ hm=>(by cases hm),rfl,λ_ hm=>(by cases hm)⟩
 rcases sM oE (eN ops.toList 0 [] []) [] [] [] Γ d q (h.room ops.size) 0 [] _ rfl iS ab with⟨eY,qT,bU,bx,bG,an,kk,qS,aT,a8,bu,w,du⟩|⟨v,eY,qT,bU,bx,bG,an,kk,e,m,h0,uu,qF,aT,wV,a8,bu,w,⟨post,a_⟩,du⟩
 · refine⟨.nrm,_,bx,bG,an,λr hm=>?_,nD (C3 _ du)⟩
   have aa:=a8 r hm
   have ad:=C1 (r:=r) (by rw[bu];exact hm) w.cur (λz a4=>(w.st z a4).2) _ (λs hs _=>w.seen s hs) du
   refine⟨_,?_,CW (by rw[bu];exact hm) _ _ _ (by rw[bu];exact hm)⟩
   have ht:fG P need rd.isSome call ops r h.n (eN ops.toList 0 [] []) [] d q ⟨h.t,h.n+ops.size⟩ []=.ok (aD.bT eY) bx bG an (hF qS):=aa
   simp only[ds,rB,ht,zE,ad,oW]
 · refine⟨.b1 v,_,bx,bG,an,λr hm=>?_,nD (C3 _ du)⟩
   have aa:=a8 r hm
   have Qe:∀s∈eN ops.toList 0 [] [],s.i<eY.length->ur P need ops s eY.length (aD.bT eY) (cO bU) qT aT:=λs hs ae=>by
    refine w.seen s ?_
    obtain⟨k,av,om⟩:=List.getElem_of_mem hs
    have Yv:s.i=k:=oE k s (by rw[List.getElem?_eq_getElem av,om])
    have Im:k<wV.length:=by rw[w.pl];omega
    have:(wV++post)[k]? =some s:=by rw[<-a_,List.getElem?_eq_getElem av,om]
    rw[List.getElem?_append_left Im] at this
    exact List.mem_of_getElem? this
   have ad:=C1 (r:=r) (by rw[bu];exact hm) w.cur (λz a4=>(w.st z a4).2) _ Qe du
   refine⟨_,?_,CX _ _ _ (by rw[bu];exact hm)⟩
   have ht:fG P need rd.isSome call ops r h.n (eN ops.toList 0 [] []) [] d q ⟨h.t,h.n+ops.size⟩ []=.b1 v (aD.bT eY) bx bG an ((e,m,h0)::hF qF):=aa
   simp only[ds,rB,ht,zE,ad,oW]
end
end aB
namespace aB
open Go
abbrev sO:=bw->c0->List bP->bE->J->cI
def zG(P:Program):List (Nat×jC)->(c0->cI)->cI
 |[],K=>K []
 |(t,s)::l,K=>shape P 9 s λx=>zG P l λΓ=>K ((t,x)::Γ)
def C5(P:Program)(d:List bP)(q:bE)(K:sO)(cq:bw)(cr:ah):List (bw×List (Nat×jC))->cI
 |[]=>bad "loop"
 |[(e,rs)]=>zG P rs λe_=>dO λg:J=>dO λbU:Env=>fE (cq=e) (fE (cr=⟨bU,d,q,g⟩) (fE (cg (cO e_) bU) (K e e_ d q g)))
 |(e,rs)::l=>.mk ((zG P rs λe_=>dO λg:J=>dO λbU:Env=>fE (cq=e) (fE (cr=⟨bU,d,q,g⟩) (fE (cg (cO e_) bU) (K e e_ d q g)))).p\/(C5 P d q K cq cr l).p)
def Qf:Operand->Nat
 |.tmp t=>t
 |_=>999
def zH(P:Program)(call:aF->List I->J->ao)(fn:Func)(pl:j1)(fB:Nat)(path:List Nat)(Γ:c0)(d:List bP)(q:bE)(h:J)(K:sO):cI:=match sB (4000+fB) pl with
 |some (.hD ins outs)=>.mk (bj P fn call path ⟨l2 (cO Γ) ins,d,q,h⟩ λcq cr=>(C5 P d q K cq cr outs).p)
 |_=>bad "loop"
def l9(P:Program)(call:aF->List I->J->ao)(fn:Func)(need:Nat)(pl:j1):Code->Nat->List Nat->c0->List bP->bE->J->sO->cI
 |.skip,_,_,Γ,d,q,h,K=>K .nrm Γ d q h
 |.label _,_,_,Γ,d,q,h,K=>K .nrm Γ d q h
 |.exit id,_,_,Γ,d,q,h,K=>K (.exit id) Γ d q h
 |.ret,_,_,Γ,d,q,h,K=>K .ret Γ d q h
 |.scope b,fB,p,Γ,d,q,h,K=>l9 P call fn need pl b fB (p++[0]) Γ d q h K
 |.region id ops draw,_,_,Γ,d,q,h,K=>match draw with
  |false=>wQ P need false call pl id (n2 P need ops).steps [] Γ d q h
   (λenv Γ d q h=>mY (sK need env.length env Γ (n2 P need ops).loc Γ) λΓ=>K .nrm Γ d q h)
   (λv Γ d q h=>mY (wR (n2 P need ops).loc Γ) λΓ=>K (.b1 v) Γ d q h)
  |true=>Il P need false call pl id ops Γ d q h K
 |.seq a b,fB,p,Γ,d,q,h,K=>l9 P call fn need pl a fB (p++[0]) Γ d q h λe Γ d q h=>match e with
  |.nrm=>l9 P call fn need pl b fB (p++[1]) Γ d q h K
  |e=>K e Γ d q h
 |.cond c a b,fB,p,Γ,d,q,h,K=>match lq 0 [] Γ (cL P need [] c) with
  |none=>bad "if"
  |some s=>s.eh (zx (sB (1000+Qf c) pl)) (mY (sA (cL P need [] c) .iX Γ) λΓ=>l9 P call fn need pl a fB (p++[0]) Γ d q h K) (mY (sA (cL P need [] c) .iY Γ) λΓ=>l9 P call fn need pl b fB (p++[1]) Γ d q h K)
 |.block id b,_,p,Γ,d,q,h,K=>l9 P call fn need pl b id (p++[0]) Γ d q h λe Γ d q h=>match e with
  |.exit i=>match Nat.beq i id with
   |true=>K .nrm Γ d q h
   |false=>K (.exit i) Γ d q h
  |e=>K e Γ d q h
 |.loop _,fB,p,Γ,d,q,h,K=>zH P call fn pl fB p Γ d q h K
 |.rangeFunc _ _ _ _,fB,p,Γ,d,q,h,K=>zH P call fn pl (500+fB) p Γ d q h K
 |_,_,_,_,_,_,_,_=>bad "code"
section
variable {P:Program} {call:aF->List I->J->ao} {fn:Func}
theorem C6:∀(l:List (Nat×jC)) {K:c0->cI},(zG P l K).p->∃Γ,(K Γ).p
 |[],K,h=>⟨[],h⟩
 |(t,s)::l,K,h=>by
  obtain⟨x,h⟩:=sH h
  obtain⟨Γ,h⟩:=C6 l h
  exact⟨_,h⟩
theorem Io{d:List bP}{q:bE}{K:sO}{cq:bw}{cr:ah}:∀(l:List (bw×List (Nat×jC))),(C5 P d q K cq cr l).p->∃e_ bU g,cr=⟨bU,d,q,g⟩/\cg (cO e_) bU/\(K cq e_ d q g).p
 |[],h=>by cases h
 |[(e,rs)],h=>by
  obtain⟨e_,g,bU,rfl,ad,aw,aQ⟩:=C6 _ h
  exact⟨e_,bU,g,ad,aw,aQ⟩
 |(e,rs)::y::l,h=>by
  rcases h with h|h
  · obtain⟨e_,g,bU,rfl,ad,aw,aQ⟩:=C6 _ h
    exact⟨e_,bU,g,ad,aw,aQ⟩
  · exact Io (y::l) h
theorem zI(Γ:Env):∀l:List Nat,cg (l2 Γ l) Γ
 |[]=>trivial
 |t::l=>by
  simp only[l2]
  cases h:eQ t Γ with
  |none=>exact zI Γ l
  |some v=>exact⟨h,zI Γ l⟩
theorem Ip{pl:j1}{fB:Nat}{p:List Nat}{Γ:c0}{d:List bP}{q:bE}{h:J}{K:sO}(ab:(zH P call fn pl fB p Γ d q h K).p):C4 P (dM fn) none call (sub (fF fn) p) Γ d q h K:=by
 unfold zH at ab
 split at ab
 · obtain⟨e,st,ai,bp⟩:=ab
   obtain⟨e_,bU,g,rfl,aw,aQ⟩:=Io _ bp
   have aa:cC P (dM fn) none call (sub (fF fn) p) ⟨cO Γ,d,q,h⟩ e ⟨bU,d,q,g⟩:=cC.pre (st1:=⟨cO Γ,d,q,h⟩) ai (zI _ _) rfl rfl rfl
   exact⟨e,e_,d,q,g,cC.post aa aw,aQ⟩
 · cases ab
theorem qW{pl:j1}:∀(c:Code) (fB:Nat) (p:List Nat) (Γ:c0) (d:List bP) (q:bE) (h:J) (K:sO),sub (fF fn) p=c->(l9 P call fn (dM fn) pl c fB p Γ d q h K).p->C4 P (dM fn) none call c Γ d q h K
 |.skip,fB,p,Γ,d,q,h,K,ag,ab=>⟨.nrm,Γ,d,q,h,λr ai=>⟨r,rfl,ai⟩,ab⟩
 |.label _,fB,p,Γ,d,q,h,K,ag,ab=>⟨.nrm,Γ,d,q,h,λr ai=>⟨r,rfl,ai⟩,ab⟩
 |.exit id,fB,p,Γ,d,q,h,K,ag,ab=>⟨.exit id,Γ,d,q,h,λr ai=>⟨r,rfl,ai⟩,ab⟩
 |.ret,fB,p,Γ,d,q,h,K,ag,ab=>⟨.ret,Γ,d,q,h,λr ai=>⟨r,rfl,ai⟩,ab⟩
 |.scope b,fB,p,Γ,d,q,h,K,ag,ab=>qW b fB (p++[0]) Γ d q h K (by rw[jZ,ag];simp[sub]) ab
 |.region id ops draw,fB,p,Γ,d,q,h,K,ag,ab=>by
  simp only[l9] at ab
  cases draw with
  |true=>exact Qd ab
  |false=>
   rcases CV _ _ _ _ _ _ ab with⟨eY,bU,bx,bG,an,a8,bu,du⟩|⟨v,bU,bx,bG,an,a8,bu,du⟩
   · refine⟨.nrm,_,bx,bG,an,λr ai=>⟨_,?_,CW (by rw[bu];exact ai) _ _ _ (by rw[bu];exact ai)⟩,nD du⟩
     have aa:js P (dM fn) false call r (n2 P (dM fn) ops).steps [] d q h=.ok (aD.bT eY) bx bG an:=a8 r ai
     simp only[ds,Option.isSome_none,aa,oW,zE]
   · refine⟨.b1 v,_,bx,bG,an,λr ai=>⟨_,?_,CX _ _ _ (by rw[bu];exact ai)⟩,nD du⟩
     have aa:js P (dM fn) false call r (n2 P (dM fn) ops).steps [] d q h=.b1 v bx bG an:=a8 r ai
     simp only[ds,Option.isSome_none,aa,oW]
 |.seq a b,fB,p,Γ,d,q,h,K,ag,ab=>by
  obtain⟨e,gb,d1,aV,aa,r1,bQ⟩:=qW a fB (p++[0]) Γ d q h _ (by rw[jZ,ag];simp[sub]) ab
  by_cases he:e=.nrm
  · subst he
    obtain⟨ay,Γ2,d2,aY,ad,r2,cl⟩:=qW b fB (p++[1]) gb d1 aV aa K (by rw[jZ,ag];simp[sub]) bQ
    refine⟨ay,Γ2,d2,aY,ad,λr ai=>?_,cl⟩
    obtain⟨l_,fZ,ma⟩:=r1 r ai
    obtain⟨Qg,ux,Qh⟩:=r2 l_ ma
    exact⟨Qg,by simp only at fZ ux;simp only[ds,fZ,oX,ux],Qh⟩
  · refine⟨e,gb,d1,aV,aa,λr ai=>?_,by cases e<;>first|exact absurd rfl he|exact bQ⟩
    obtain⟨l_,fZ,ma⟩:=r1 r ai
    exact⟨l_,by simp only[ds,fZ];exact r3 he,ma⟩
 |.cond c a b,fB,p,Γ,d,q,h,K,ag,ab=>by
  simp only[l9] at ab
  split at ab
  · cases ab
  · rename_i s hs
    have iB:gG 0 [] (cO Γ) (cL P (dM fn) [] c)=some s.den:=by rw[show([]:List I)=aD.bT [] from rfl,<-ug,hs];rfl
    obtain⟨af,a2⟩:=zA _ ab
    have aA:=aD.oB af
    rcases a2 with⟨aU,av⟩|⟨aU,av⟩
    · rw[aU] at aA
      obtain⟨_,ay,_⟩:=ui (x:=.iX) hs aA
      obtain⟨e,gb,d1,aV,aa,r1,bQ⟩:=qW a fB (p++[0]) _ d q h K (by rw[jZ,ag];simp[sub]) (nD av)
      refine⟨e,gb,d1,aV,aa,λr ai=>?_,bQ⟩
      obtain⟨l_,fZ,ma⟩:=r1 r (by rw[ay];exact ai)
      exact⟨l_,by simp only at fZ;simp only[ds,uh ai iB,aA,fZ],ma⟩
    · rw[aU] at aA
      obtain⟨_,ay,_⟩:=ui (x:=.iY) hs aA
      obtain⟨e,gb,d1,aV,aa,r1,bQ⟩:=qW b fB (p++[1]) _ d q h K (by rw[jZ,ag];simp[sub]) (nD av)
      refine⟨e,gb,d1,aV,aa,λr ai=>?_,bQ⟩
      obtain⟨l_,fZ,ma⟩:=r1 r (by rw[ay];exact ai)
      exact⟨l_,by simp only at fZ;simp only[ds,uh ai iB,aA,fZ],ma⟩
 |.block id b,fB,p,Γ,d,q,h,K,ag,ab=>by
  obtain⟨e,gb,d1,aV,aa,r1,bQ⟩:=qW b id (p++[0]) Γ d q h _ (by rw[jZ,ag];simp[sub]) ab
  cases e with
  |exit i=>
   simp only at bQ
   cases ae:Nat.beq i id with
   |true=>
    rw[ae] at bQ
    obtain rfl:=Nat.eq_of_beq_eq_true ae
    exact⟨.nrm,gb,d1,aV,aa,λr ai=>by
     obtain⟨l_,fZ,ma⟩:=r1 r ai
     exact⟨l_,by simp only at fZ;simp only[ds,fZ,if_true],ma⟩,bQ⟩
   |false=>
    rw[ae] at bQ
    have dk:¬i=id:=by intro cR;subst cR;simp at ae
    exact⟨.exit i,gb,d1,aV,aa,λr ai=>by
     obtain⟨l_,fZ,ma⟩:=r1 r ai
     exact⟨l_,by simp only at fZ;simp only[ds,fZ,if_neg dk],ma⟩,bQ⟩
  |_=>
   exact⟨_,gb,d1,aV,aa,λr ai=>by
    obtain⟨l_,fZ,ma⟩:=r1 r ai
    exact⟨l_,by simp only at fZ;simp only[ds,fZ],ma⟩,bQ⟩
 |.loop b,fB,p,Γ,d,q,h,K,ag,ab=>by
  have:=Ip ab;rw[ag] at this;exact this
 |.rangeFunc f ps as cj,fB,p,Γ,d,q,h,K,ag,ab=>by
  have:=Ip ab;rw[ag] at this;exact this
 |.goto _,fB,p,Γ,d,q,h,K,ag,ab=>by simp only[l9] at ab;cases ab
 |.refuse _,fB,p,Γ,d,q,h,K,ag,ab=>by simp only[l9] at ab;cases ab
def Iq(P:Program)(fn:Func)(call:aF->List I->J->ao)(pl:j1)(b6:List Nat)(path:List Nat)(Γ:c0)(d:List bP)(q:bE)(h:J)(Q:bw->ah->Prop):Prop:=
 (l9 P call fn (dM fn) pl (sub (fF fn) path) 0 path Γ d q h λe Γ d q h=>.mk (Q e ⟨l2 (cO Γ) b6,d,q,h⟩)).p
theorem eu(pl:j1)(b6:List Nat)(Γ:c0){bU:Env}{path:List Nat}{d:List bP}{q:bE}{h:J}{Q:bw->ah->Prop}(cJ:cO Γ=bU)(H:Iq P fn call pl b6 path Γ d q h Q):bj P fn call path ⟨bU,d,q,h⟩ Q:=by
 subst cJ
 obtain⟨e,gb,d1,aV,aa,r1,bQ⟩:=qW _ 0 path Γ d q h _ rfl H
 exact⟨e,_,cC.post r1 (zI _ b6),bQ⟩
def Ir(P:Program)(fn:Func)(R:ao->Prop):sO:=λe Γ d q h=>match d with
 |[]=>match e with
  |.b1 v=>.mk (R (.b1 v h))
  |.ret|.nrm=>match mV P (dM fn) fn (cO Γ) h with
   |some v=>.mk (R (.ret v h))
   |none=>bad "results"
  |_=>bad "end"
 |_=>bad "deferred"
def Is(P:Program)(fn:Func)(call:aF->List I->J->ao)(pl:j1)(Γ:c0)(h:J)(R:ao->Prop):Prop:=
 (l9 P call fn (dM fn) pl (fF fn) 0 [] Γ [] .none h (Ir P fn R)).p
theorem dp{intr:Nat->List I->J->Option (I×J)}{f n:Nat}{args:List I}{h:J}{R:ao->Prop}(pl:j1)(Γ:c0)(hf:P.funcs[f]? =some fn)(af:fn.body.isSome=true)(ae:intr f args h=none)(hle:Nat.ble args.length fn.ntmps=true)(cJ:cO Γ=nA 0 args)(H:Is P fn (fq P intr n) pl Γ h R):R (fq P intr (n+1) (.fn f) args h):=by
 refine HW hf af ae hle (Q:=λe s=>s.d=[]/\((∃v,e=.b1 v/\R (.b1 v s.h))\/((e=.ret\/e=.nrm)/\∃v,mV P (dM fn) fn s.Γ s.h=some v/\R (.ret v s.h)))) ?_ λe s bp=>?_
 · have hs:sub (fF fn) []=fF fn:=by cases fF fn<;>rfl
   obtain⟨e,gb,d1,aV,aa,r1,bQ⟩:=qW (fF fn) 0 [] Γ [] .none h _ hs H
   rw[cJ] at r1
   refine⟨e,⟨cO gb,d1,aV,aa⟩,by unfold az;rw[hs];exact r1,?_⟩
   unfold Ir at bQ
   split at bQ
   · refine⟨rfl,?_⟩
     split at bQ
     · exact .inl ⟨_,rfl,bQ⟩
     · split at bQ
       · rename_i v aC;exact .inr ⟨.inl rfl,v,aC,bQ⟩
       · cases bQ
     · split at bQ
       · rename_i v aC;exact .inr ⟨.inr rfl,v,aC,bQ⟩
       · cases bQ
     · cases bQ
   · cases bQ
 · obtain⟨aA,bp⟩:=bp
   rcases bp with⟨v,rfl,ai⟩|⟨he,v,aC,ai⟩
   · exact .inr ⟨v,rfl,aA,ai⟩
   · exact .inl ⟨he,aA,v,aC,ai⟩
end
attribute [irreducible] Iq Is
end aB
