/-
  PROVED HERE: symbolic runs of the evaluator, and that they are sound (Sxa). No condition beside each statement's own.
-/
import Derived.Test.YtjkomfonmcmgdaaDoorAed
set_option linter.unusedVariables false
set_option linter.unusedSimpArgs false
namespace a8
open Go
abbrev Env:=List (Nat×I)
def dp(t:Nat):Env->Option I
 |[]=>none
 |(u,v)::l=>match Nat.beq t u with
  |true=>some v
  |false=>dp t l
def del(t:Nat):Env->Env
 |[]=>[]
 |(u,v)::l=>match Nat.beq t u with
  |true=>del t l
  |false=>(u,v)::del t l
def put(t:Nat)(v:I)(Γ:Env):Env:=(t,v)::del t Γ
def lk(Γ:Env):List Nat->Env
 |[]=>[]
 |t::l=>match dp t Γ with
  |some v=>(t,v)::lk Γ l
  |none=>lk Γ l
def Mod(r:aN)(Γ:Env):Prop:=∀t v,dp t Γ=some v->r.get (fV t)=v
structure au where
 Γ:Env
 d:List bz
 q:bu
 h:ab
inductive Hint where
 |v (v:I)
 |ll (v:I) (h:ab)
 |c (v:I) (h:ab)
 |p (v:I) (h:ab)
 |b (b:Bool)
 |loop (e:bk) (st:au)
 |dQ (v:I) (o:cX)
 |o (v:I)
 |PG
def dX:List Prop->Prop
 |[]=>True
 |p::l=>p/\dX l
theorem dX.cons{p:Prop}{l:List Prop}(h:p)(t:dX l):dX (p::l):=⟨h,t⟩
theorem dX.nil:dX []:=trivial
theorem dX.append:∀{l m:List Prop},dX (l++m)->dX l/\dX m
 |[],m,h=>⟨trivial,h⟩
 |p::l,m,h=>⟨⟨h.1,(dX.append h.2).1⟩,(dX.append h.2).2⟩
def l7(m:Nat)(env:List I)(Γ:Env):Acc->Option I
 |.env j=>nth (m-1-j) env
 |.j1 p=>dp p.num Γ
 |.val v=>some v
def Cl(o:Oper)(g:Operand->I):Nat:=match o.op with
 |.load .. |.slice .. |.index .. |.indexAddr .. |.lookup .. |.entry .. =>1
 |.binOp op _ x y _=>match op,g x,g y with
  |.eql,.int _ _,.int _ _|.neq,.int _ _,.int _ _|.lss,.int _ _,.int _ _|.leq,.int _ _,.int _ _|.gtr,.int _ _,.int _ _|.geq,.int _ _,.int _ _=>0
  |.eql,.str _,.str _|.neq,.str _,.str _|.lss,.str _,.str _|.leq,.str _,.str _|.gtr,.str _,.str _|.geq,.str _,.str _=>0
  |_,_,_=>1
 |.unOp op _ _=>match op with
  |.not=>0
  |_=>1
 |.convert _ _ x=>match g x with
  |.str _=>2
  |_=>1
 |.range _ x=>match g x with
  |.map _=>2
  |_=>0
 |.store .. |.mapUpdate .. |.mapEntry .. |.entryStore .. |.insert .. |.next .. |.makeSlice .. =>2
 |.call c=>match c.callee with
  |.builtin b=>match b with
   |.len=>match c.args.toList.map g with
    |[.map _]=>1
    |_=>0
   |.cap|.min|.max|.unsafeSliceData=>1
   |.append|.copy|.clear|.delete|.unsafeString=>2
   |_=>0
  |_=>0
 |_=>0
def ln(n:Nat)(s:List UInt8):Option I:=match nth n s with
 |some b=>some (.int .u8 (Int.ofNat b.toNat))
 |none=>none
def mU(P:Program)(o:Oper)(g:Operand->I)(h:ab)(v:I):Prop:=match o.op with
 |.load t a=>match g a,oh P t,cY P t with
  |.ptr b off,some false,some _=>aB h b off=some v
  |.ptr b off,some true,some n=>match v with
   |.agg cs=>loadCells h b off n=some cs
   |_=>False
  |_,_,_=>False
 |.binOp op t x y _=>match g x,g y with
  |.int k a,.int dA b=>match op with
   |.shl=>pq .shl k a b=some v
   |.shr=>pq .shr k a b=some v
   |op=>match decide (k=dA) with
    |true=>arith op k a b=some v
    |false=>False
  |.str a,.str b=>qP op a b=some v
  |a,b=>e1 P h op t x y a b=some v
 |.slice t x aY ag mx=>ec P h t (g x) (aY.map g) (ag.map g) (mx.map g)=some v
 |.index t x i=>match P.underlying t,g x,eb (g i) with
  |some .string,.str s,some n=>ln n s=some v
  |some (.array m e),.agg cs,some n=>match cY P e with
   |some sz=>n<m/\hP P e cs (n*sz)=some v
   |none=>False
  |_,_,_=>False
 |.indexAddr t x i=>match P.underlying t,g x,eb (g i) with
  |some (.array m e),.ptr b off,some n=>match cY P e with
   |some sz=>n<m/\v=.ptr b (off+n*sz)
   |none=>False
  |some (.slice e),.slice b off m c,some n=>match cY P e with
   |some sz=>n<m/\v=.ptr b (off+n*sz)
   |none=>False
  |_,_,_=>False
 |.lookup t x i ok=>gv P h t (g x) (g i) ok=some v
 |.entry it=>qS h (g it)=some v
 |.unOp op _ x=>match op,g x with
  |.neg,.int k n=>v=.int k (k.wrap (0-n))
  |.xor,.int k n=>arith .xor k (if k.signed then-1 else k.max) n=some v
  |_,_=>False
 |.convert src dst x=>e8 P src dst (g x) h=.val v h
 |.call c=>match c.callee,c.args.toList.map g,c.argTypes[0]? with
  |.builtin .len,[x],some t=>cr P h t x=some v
  |.builtin .cap,[x],some t=>sO P t x=some v
  |.builtin .min,x::l,_=>mu uU x l=some v
  |.builtin .max,x::l,_=>mu pr x l=some v
  |.builtin .unsafeSliceData,[x],some t=>g5 P .unsafeSliceData #[t] [x] h=.val v h
  |_,_,_=>False
 |_=>False
def yO(P:Program)(h:ab)(t:TypeId)(l c:I):Option (I×ab):=match P.underlying t,eb l,eb c with
 |some (.slice e),some l,some c=>match P.info? e,dt P e with
  |some i,some z=>if l<=c&&Nat.ble (c*(i.bytes+1)) 1099511627776&&Nat.beq z.cells.length i.size then(match newRow h e (if c*i.size=0 then[] else ew c z.cells) with
   |some (b,ao)=>some (.slice b 0 l (.exact c),ao)
   |none=>none) else none
  |_,_=>none
 |_,_,_=>none
def yP(h:ab):I->Option (I×ab)
 |.map m=>match h.get m with
  |some (.map _ c)=>some (.ptr h.n 0,h.push (.mapIter (some m) c [] c))
  |_=>none
 |_=>none
def tz(P:Program)(o:Oper)(g:Operand->I)(h:ab)(v:I)(ao:ab):Prop:=match o.op with
 |.store t a x=>match g a with
  |.ptr b off=>cY P t=some (g x).cells.length/\storeCells h b off (g x).cells=some ao/\v=.aJ []
  |_=>False
 |.convert src dst x=>e8 P src dst (g x) h=.val v ao
 |.mapUpdate t m k x=>sQ P h t (g m) (g k) (g x)=some ao/\v=.aJ []
 |.insert t m k x=>sQ P h t (g m) (g k) (g x)=some ao/\v=.aJ []
 |.mapEntry t m k=>nr P h t (g m) (g k)=some (v,ao)
 |.entryStore t m s x=>nt h (g m) (g s) (g x)=some ao/\v=.aJ []
 |.next it isStr=>xI h (g it) isStr=some (v,ao)
 |.range t x=>match P.underlying t with
  |some (.map _ _)=>yP h (g x)=some (v,ao)
  |_=>False
 |.makeSlice t l c=>yO P h t (g l) (g c)=some (v,ao)
 |.call c=>match c.callee,c.args.toList.map g,c.argTypes[0]? with
  |.builtin .append,[x,y],some t=>eh P h t c.argTypes[1]? x y=some (v,ao)
  |.builtin .copy,[x,y],some t=>sP P h t x y=some (v,ao)
  |.builtin .clear,[x],some t=>nj P h t x=some (v,ao)
  |.builtin .delete,[x,y],some t=>nu P h t x y=some (v,ao)
  |.builtin .unsafeString,[x,y],some t=>nk P h t x y=some (v,ao)
  |_,_,_=>False
 |_=>False
inductive lo where
 |ok (v:I) (d:List bz) (q:bu) (h:ab)
 |bK (v:I) (d:List bz) (q:bu) (h:ab)
def lo.res:lo->uZ
 |.ok v d q h=>.ok v d q h
 |.bK v d q h=>.bK v d q h
inductive jN(α:Type 1) where
 |ct (a:α)
 |stop (h1:String) (x:Option Bool)
structure fZ(α:Type):Type 1 where
 res:α
 cs:List Prop
 hs:List Hint
structure PH(l:List I):Prop where
 h:l.all I.cw=true
def yQ(call:bt)(pos:String)(f:dB)(args:List I)(d:List bz)(q:bu)(h:ab):List Hint->jN (fZ lo)
 |.c v ao::hs=>.ct ⟨.ok v d q ao,[call f args h=.ret v ao],hs⟩
 |.p v ao::hs=>.ct ⟨.bK v d q ao,[call f args h=.bK v ao],hs⟩
 |_=>.stop ("call " ++pos) none
def PI(P:Program)(o:Oper):Bool:=match o.op with
 |.call c=>match c.callee with
  |.builtin b=>match b with
   |.len=>true
   |_=>false
  |_=>false
 |.binOp op t _ _ _=>match op with
  |.eql|.neq=>match P.underlying t with
   |some (.int _)=>false
   |some .string=>false
   |some .bool=>false
   |some _=>true
   |none=>false
  |_=>false
 |_=>false
def PJ(P:Program)(o:Oper):List Hint->Option (I×List Hint)
 |.o v::hs=>match PI P o with
  |true=>some (v,hs)
  |false=>none
 |_=>none
def Hm(o:Oper):List Hint->Option (TypeId×Operand×List Hint)
 |.PG::hs=>match o.op with
  |.box e x=>some (e,x,hs)
  |_=>none
 |_=>none
def Cm(P:Program)(inR:Bool)(call:bt)(o:Oper)(g:Operand->I)(d:List bz)(q:bu)(h:ab)(hs:List Hint):jN (fZ lo):=
 match PJ P o hs with
 |some (v,hs)=>.ct ⟨.ok v d q h,[mU P o g h v],hs⟩
 |none=>match Hm o hs with
  |some (e,x,hs)=>.ct ⟨.ok (.ptr h.n 0) d q (h.push (.cells (g x).cells e .own 0 0)),[PH (g x).cells],hs⟩
  |none=>match Cl o g with
   |0=>match cj P o g h with
    |.val v ao=>.ct ⟨.ok v d q ao,[],hs⟩
    |.bK v ao=>.ct ⟨.bK v d q ao,[],hs⟩
    |.call f args ao=>yQ call o.pos (.fn f) args d q ao hs
    |.cS l args ao=>yQ call o.pos (.cS l) args d q ao hs
    |.j0 x=>match inR with
     |true=>.stop "defer" none
     |false=>.ct ⟨.ok (.aJ []) (x::d) q h,[],hs⟩
    |.qO=>match inR with
     |true=>.stop "recover" none
     |false=>match q with
      |.none=>.ct ⟨.ok .ea d .none h,[],hs⟩
      |.done v=>.ct ⟨.ok .ea d (.done v) h,[],hs⟩
      |.act v=>.ct ⟨.ok v d (.done v) h,[],hs⟩
    |.fail w=>.stop (w++ " " ++o.pos) none
   |1=>match hs with
    |.v v::hs=>.ct ⟨.ok v d q h,[mU P o g h v],hs⟩
    |_=>.stop ("value " ++o.pos) none
   |_=>match hs with
    |.ll v ao::hs=>.ct ⟨.ok v d q ao,[tz P o g h v ao],hs⟩
    |_=>.stop ("value and memory " ++o.pos) none
def Cn(o:Oper)(g:Operand->I)(d:List bz)(q:bu)(h:ab)(hs:List Hint):Option (jN (fZ lo)):=match o.op with
 |.pick c a b=>match g c with
  |.bool x=>match hs with
   |.b true::hs=>some (.ct ⟨.ok (g a) d q h,[x=true],hs⟩)
   |.b false::hs=>some (.ct ⟨.ok (g b) d q h,[x=false],hs⟩)
   |_=>some (.stop ("pick " ++o.pos) (some x))
  |_=>some (.stop ("pick of what " ++o.pos) none)
 |_=>none
def yR(P:Program)(inR:Bool)(call:bt)(o:Oper)(g:Operand->I)(d:List bz)(q:bu)(h:ab)(hs:List Hint):jN (fZ lo):=match Cn o g d q h hs with
 |some r=>r
 |none=>Cm P inR call o g d q h hs
def tA(P:Program)(inR:Bool)(call:bt)(gd:Option (I×Bool))(o:Oper)(g:Operand->I)(d:List bz)(q:bu)(h:ab)(hs:List Hint):jN (fZ lo):=
 match gd with
 |none=>yR P inR call o g d q h hs
 |some (.bool x,b)=>match hs with
  |.b c::hs=>match c==b with
   |true=>match yR P inR call o g d q h hs with
    |.ct ⟨s,cs,hs⟩=>.ct ⟨s,(x=c)::cs,hs⟩
    |.stop w x=>.stop w x
   |false=>.ct ⟨.ok (.aJ []) d q h,[x=c],hs⟩
  |_=>.stop ("guard " ++o.pos) (some x)
 |some (.aJ [],_)=>.ct ⟨.ok (.aJ []) d q h,[],hs⟩
 |_=>.stop ("guard of what " ++o.pos) none
def tB(P:Program)(need m:Nat)(env:List I)(Γ:Env)(loc:List (Nat×Acc))(o:Oper):Bool:=o.op.operands.toList.all λx=>(l7 m env Γ (cl P need loc x)).isSome
def jO(P:Program)(need m:Nat)(env:List I)(Γ:Env)(loc:List (Nat×Acc))(x:Operand):I:=(l7 m env Γ (cl P need loc x)).getD .bad
def Hn(env:List I)(Γ:Env)(s:Step):Option (Option (I×Bool)):=match s.guard with
 |none=>some none
 |some (a,b)=>match l7 s.m env Γ a with
  |some v=>some (some (v,b))
  |none=>none
def yS(P:Program)(need:Nat)(inR:Bool)(call:bt)(Γ:Env):List Step->List I->List bz->bu->ab->List Hint->jN (fZ k3)
 |[],env,d,q,h,hs=>.ct ⟨.ok env d q h,[],hs⟩
 |s::rest,env,d,q,h,hs=>
  match tB P need s.m env Γ s.loc s.o with
  |false=>.stop ("an operand " ++s.o.pos) none
  |true=>
   match Hn env Γ s with
   |none=>.stop ("guard " ++s.o.pos) none
   |some gd=>match tA P inR call gd s.o (jO P need s.m env Γ s.loc) d q h hs with
    |.ct ⟨.ok v aW a0 ao,cs,c_⟩=>match yS P need inR call Γ rest (v::env) aW a0 ao c_ with
     |.ct ⟨x,bw,rH⟩=>.ct ⟨x,cs++bw,rH⟩
     |.stop w x=>.stop w x
    |.ct ⟨.bK v aW a0 ao,cs,c_⟩=>.ct ⟨.bK v aW a0 ao,cs,c_⟩
    |.stop w x=>.stop w x
def oR(need m:Nat)(env:List I)(fs:Env):List (Nat×Acc)->Env->Env
 |[],Γ=>Γ
 |(t,a)::l,Γ=>
  match Nat.testBit need t with
  |true=>match l7 m env fs a with
   |some v=>put t v (oR need m env fs l Γ)
   |none=>del t (oR need m env fs l Γ)
  |false=>oR need m env fs l Γ
def yT:List (Nat×Acc)->Env->Env
 |[],Γ=>Γ
 |(t,_)::l,Γ=>del t (yT l Γ)
def ab.room(h:ab)(k:Nat):ab:=⟨h.t,h.n+k⟩
@[simp] theorem ab.PK (h:ab) (k b:Nat):(h.room k).get b=h.get b:=rfl
@[simp] theorem ab.Ho (h:ab) (k:Nat):(h.room k).n=h.n+k:=rfl
abbrev l8:=List (Nat×Nat×ab)
structure iI where
 env:List I
 d:List bz
 q:bu
 h:ab
 aX:l8
def v5(P:Program)(need:Nat)(ops:Array Oper)(n:Nat)(env:List I)(Γ:Env)(s:DStep):Option (Option (I×Bool)):=match il P need ops s.loc s.o with
 |none=>some none
 |some (a,b)=>match l7 n env Γ a with
  |some v=>some (some (v,b))
  |none=>none
def rI(s:DStep):l8->Bool
 |[]=>true
 |(e,_,_)::_=>Nat.testBit s.ed e
def Hp(P:Program)(t:TypeId)(l c:I)(b:Nat):Option (I×cX):=match P.underlying t,eb l,eb c with
 |some (.slice e),some l,some c=>match P.info? e,dt P e with
  |some i,some z=>match decide (l<=c)&&Nat.ble (c*(i.bytes+1)) 1099511627776&&Nat.beq z.cells.length i.size,(if c*i.size=0 then[] else ew c z.cells) with
   |true,cs=>match cs.all I.cw with
    |true=>some (.slice b 0 l (.exact c),.cells cs e .own 0 0)
    |false=>none
   |_,_=>none
  |_,_=>none
 |_,_,_=>none
def Hq(P:Program)(op:Op)(g:Operand->I)(b:Nat)(v:I)(o:cX):Prop:=match op with
 |.makeSlice t l c=>Hp P t (g l) (g c) b=some (v,o)
 |_=>False
theorem Hr{P:Program}{op:Op}{g:Operand->I}{b:Nat}{v:I}{o:cX}(h:Hq P op g b v o):iO P op g b=some (v,o):=by
 cases op<;>first|exact h|exact absurd h id
def Hs(P:Program)(gd:Option (I×Bool))(s:DStep)(g:Operand->I)(b:Nat)(st:iI)(hs:List Hint):jN (fZ iI):=
 match gd with
 |none=>match hs with
  |.dQ v o::hs=>.ct ⟨⟨v::st.env,st.d,st.q,st.h.set b (some o),st.aX⟩,[Hq P s.o.op g b v o],hs⟩
  |hs=>match iO P s.o.op g b with
   |some (v,o)=>.ct ⟨⟨v::st.env,st.d,st.q,st.h.set b (some o),st.aX⟩,[],hs⟩
   |none=>.stop ("alloc " ++s.o.pos) none
 |some (.bool x,c)=>match hs with
  |.b y::hs=>match y==c with
   |true=>match iO P s.o.op g b with
    |some (v,o)=>.ct ⟨⟨v::st.env,st.d,st.q,st.h.set b (some o),st.aX⟩,[x=y],hs⟩
    |none=>.stop ("alloc " ++s.o.pos) none
   |false=>.ct ⟨⟨.aJ []::st.env,st.d,st.q,st.h,st.aX⟩,[x=y],hs⟩
  |_=>.stop ("guard " ++s.o.pos) (some x)
 |some (.aJ [],_)=>.ct ⟨⟨.aJ []::st.env,st.d,st.q,st.h,st.aX⟩,[],hs⟩
 |_=>.stop ("guard of what " ++s.o.pos) none
def yU(P:Program)(need:Nat)(inR:Bool)(call:bt)(ops:Array Oper)(Γ:Env)(cm:Nat)(s:DStep)(st:iI)(hs:List Hint):jN (fZ iI):=
 match tB P need s.i st.env Γ s.loc s.o with
 |false=>.stop ("an operand " ++s.o.pos) none
 |true=>match v5 P need ops s.i st.env Γ s with
  |none=>.stop ("guard " ++s.o.pos) none
  |some gd=>match kindOf P s.o.op with
   |.alloc=>Hs P gd s (jO P need s.i st.env Γ s.loc) (cm+s.i) st hs
   |.pure=>match tA P inR call gd s.o (jO P need s.i st.env Γ s.loc) st.d st.q st.h hs with
    |.ct ⟨.ok v _ _ _,cs,c_⟩=>.ct ⟨⟨v::st.env,st.d,st.q,st.h,st.aX⟩,cs,c_⟩
    |.ct ⟨.bK _ _ _ _,_,_⟩=>.stop ("a panic " ++s.o.pos) none
    |.stop w x=>.stop w x
   |.du=>match rI s st.aX with
    |false=>.stop ("order " ++s.o.pos) none
    |true=>match tA P inR call gd s.o (jO P need s.i st.env Γ s.loc) st.d st.q st.h hs with
     |.ct ⟨.ok v aW a0 ao,cs,c_⟩=>.ct ⟨⟨v::st.env,aW,a0,ao,(s.i,s.ed,st.h)::st.aX⟩,cs,c_⟩
     |.ct ⟨.bK _ _ _ _,_,_⟩=>.stop ("a panic " ++s.o.pos) none
     |.stop w x=>.stop w x
def yV(P:Program)(need:Nat)(inR:Bool)(call:bt)(ops:Array Oper)(Γ:Env)(cm:Nat):List DStep->iI->List Hint->jN (fZ iI)
 |[],st,hs=>.ct ⟨st,[],hs⟩
 |s::rest,st,hs=>match yU P need inR call ops Γ cm s st hs with
  |.ct ⟨bG,cs,c_⟩=>match yV P need inR call ops Γ cm rest bG c_ with
   |.ct ⟨y,bw,rH⟩=>.ct ⟨y,cs++bw,rH⟩
   |.stop w x=>.stop w x
  |.stop w x=>.stop w x
def Co(P:Program)(need:Nat)(inR:Bool)(call:bt)(ops:Array Oper)(Γ:Env)(s:DStep)(rest:List DStep)(st:iI)(hs:List Hint):jN (fZ (I×iI)):=
 match tB P need s.i st.env Γ s.loc s.o with
 |false=>.stop ("an operand " ++s.o.pos) none
 |true=>match v5 P need ops s.i st.env Γ s with
  |none=>.stop ("guard " ++s.o.pos) none
  |some gd=>match kindOf P s.o.op with
   |.du=>match rI s st.aX with
    |false=>.stop ("order " ++s.o.pos) none
    |true=>match tA P inR call gd s.o (jO P need s.i st.env Γ s.loc) st.d st.q st.h hs with
     |.ct ⟨.bK v aW a0 ao,cs,c_⟩=>match rest.all (λa6=>Nat.testBit a6.ed s.i) with
      |true=>.ct ⟨(v,⟨st.env,aW,a0,ao,(s.i,s.ed,st.h)::st.aX⟩),cs,c_⟩
      |false=>.stop ("panic " ++s.o.pos) none
     |_=>.stop ("no panic " ++s.o.pos) none
   |_=>.stop ("no panic " ++s.o.pos) none
def yW(P:Program)(need:Nat)(inR:Bool)(call:bt)(ops:Array Oper)(Γ:Env)(cm:Nat):List DStep->iI->List Hint->jN (fZ (I×iI))
 |[],_,_=>.stop "no panic" none
 |s::rest,st,hs=>match Co P need inR call ops Γ s rest st hs with
  |.ct y=>.ct y
  |.stop _ _=>match yU P need inR call ops Γ cm s st hs with
   |.ct ⟨bG,cs,c_⟩=>match yW P need inR call ops Γ cm rest bG c_ with
    |.ct ⟨y,bw,rH⟩=>.ct ⟨y,cs++bw,rH⟩
    |.stop w x=>.stop w x
   |.stop w x=>.stop w x
mutual
def I.sound:I->Bool
 |.bad=>false
 |.fn _ a b=>iv a&&iv b
 |.iface _ v=>v.sound
 |.agg l=>iv l
 |.aJ l=>iv l
 |_=>true
def iv:List I->Bool
 |[]=>true
 |a::l=>a.sound&&iv l
end
def Ht(o:Oper)(g:Operand->I):Option (Bool×I×I):=match o.op with
 |.pick c a b=>match g c with
  |.bool x=>some (x,g a,g b)
  |_=>none
 |_=>none
def isLen(o:Oper):Bool:=match o.op with
 |.call c=>match c.callee with
  |.builtin .len=>true
  |_=>false
 |_=>false
def v7(P:Program)(o:Oper)(g:Operand->I)(h:ab)(v:I):List Prop:=match Ht o g with
 |some (x,a,b)=>[v.sound=true,cond x a b=v]
 |none=>match isLen o with
  |true=>[v.sound=true,mU P o g h v]
  |false=>match Cl o g with
   |1=>[v.sound=true,mU P o g h v]
   |_=>match cj P o g h with
    |.val v' _=>[v.sound=true,v'=v]
    |_=>[False]
def lookW(v:I)(q p:Prop):Prop:=match v with
 |.aJ []=>q
 |_=>p
def Cp(P:Program)(need:Nat)(ops:Array Oper)(Γ:Env)(n:Nat)(env:List I)(s:DStep)(v:I)(h:ab):List Prop:=
 match tB P need n env Γ s.loc s.o,v5 P need ops n env Γ s with
 |true,some gd=>match gd with
  |none=>v7 P s.o (jO P need n env Γ s.loc) h v
  |some (.bool x,b)=>[lookW v ((x==b)=false) (dX (v7 P s.o (jO P need n env Γ s.loc) h v))]
  |some (.aJ [],_)=>[]
  |_=>[False]
 |_,_=>[False]
def oS(s:DStep)(df:Option Nat)(aX:l8):Bool:=(match df with|none=>false|some e=>Nat.testBit s.ed e)||(match aX with|[]=>false|(_,m,_)::_=>Nat.testBit m s.i)
def tC(P:Program)(need:Nat)(ops:Array Oper)(Γ:Env)(n:Nat)(env:List I)(s:DStep)(v:I):Option Nat->ab->l8->List Prop
 |df,h,aX=>
  (match oS s df aX with
   |true=>[]
   |false=>Cp P need ops Γ n env s v h)++
  (match aX with
   |[]=>[]
   |(e,_,ao)::rest=>tC P need ops Γ n env s v (some e) ao rest)
def yX(P:Program)(need:Nat)(ops:Array Oper)(Γ:Env)(n:Nat)(env:List I)(h:ab)(aX:l8):List DStep->List Prop
 |[]=>[]
 |s::rest=>(match Nat.blt s.i n,kindOf P s.o.op with
   |true,.pure=>tC P need ops Γ n env s ((nth (n-1-s.i) env).getD .bad) none h aX
   |_,_=>[])++yX P need ops Γ n env h aX rest
def yY(P:Program)(need:Nat)(ops:Array Oper)(Γ:Env)(n:Nat)(env:List I)(last:Option Nat)(h:ab)(aX:l8):List DStep->List Prop
 |[]=>[]
 |s::rest=>(match Nat.blt s.i n,kindOf P s.o.op with
   |true,.pure=>tC P need ops Γ n env s ((nth (n-1-s.i) env).getD .bad) last h aX
   |_,_=>[])++yY P need ops Γ n env last h aX rest
def Cq(P:Program)(need:Nat)(inR:Bool)(call:bt)(ops:Array Oper)(st:au)(hs:List Hint):jN (fZ (bk×au)):=
 match yW P need inR call ops st.Γ st.h.n (ei ops.toList 0 [] []) ⟨[],st.d,st.q,st.h.room ops.size,[]⟩ hs with
 |.ct ⟨(v,⟨env,d,q,h,(e,m,h0)::aX⟩),cs,c_⟩=>.ct ⟨(.bK v,⟨yT (hQ ops.toList 0 []) st.Γ,d,q,h⟩),cs++yY P need ops st.Γ env.length env (some e) h0 aX (ei ops.toList 0 [] []),c_⟩
 |.ct _=>.stop "no panic" none
 |.stop w x=>.stop w x
def Cr(P:Program)(need:Nat)(inR:Bool)(call:bt)(ops:Array Oper)(st:au)(hs:List Hint):jN (fZ (bk×au)):=
 match yV P need inR call ops st.Γ st.h.n (ei ops.toList 0 [] []) ⟨[],st.d,st.q,st.h.room ops.size,[]⟩ hs with
 |.ct ⟨⟨env,d,q,h,aX⟩,cs,c_⟩=>.ct ⟨(.nrm,⟨oR need env.length env st.Γ (hQ ops.toList 0 []) st.Γ,d,q,h⟩),cs++yX P need ops st.Γ env.length env h aX (ei ops.toList 0 [] []),c_⟩
 |.stop _ _=>Cq P need inR call ops st hs
def dT(P:Program)(need:Nat)(rd:Option Nat)(call:bt)(c:Code)(st:au)(e:bk)(bG:au):Prop:=
 ∀r,Mod r st.Γ->∃r',c2 P need rd call c r st.d st.q st.h=.ok e r' bG.d bG.q bG.h/\Mod r' bG.Γ
def PL(need:Nat)(Γ:Env)(loc:List (Nat×Acc)):k3->Option (bk×au)
 |.ok env d q h=>some (.nrm,⟨oR need env.length env Γ loc Γ,d,q,h⟩)
 |.bK v d q h=>some (.bK v,⟨yT loc Γ,d,q,h⟩)
 |.fail _=>none
def kb(P:Program)(need:Nat)(rd:Option Nat)(call:bt):Code->au->List Hint->jN (fZ (bk×au))
 |.skip,st,hs=>.ct ⟨(.nrm,st),[],hs⟩
 |.label _,st,hs=>.ct ⟨(.nrm,st),[],hs⟩
 |.exit id,st,hs=>.ct ⟨(.exit id,st),[],hs⟩
 |.ret,st,hs=>.ct ⟨(.ret,st),[],hs⟩
 |.scope b,st,hs=>kb P need rd call b st hs
 |.region id ops draw,st,hs=>
  match draw with
  |false=>
   match yS P need rd.isSome call st.Γ (nv P need ops).steps [] st.d st.q st.h hs with
   |.ct ⟨x,cs,c_⟩=>match PL need st.Γ (nv P need ops).loc x with
    |some r=>.ct ⟨r,cs,c_⟩
    |none=>.stop "region" none
   |.stop w x=>.stop w x
  |true=>Cr P need rd.isSome call ops st hs
 |.seq a b,st,hs=>match kb P need rd call a st hs with
  |.ct ⟨(.nrm,bG),cs,c_⟩=>match kb P need rd call b bG c_ with
   |.ct ⟨r,bw,rH⟩=>.ct ⟨r,cs++bw,rH⟩
   |.stop w x=>.stop w x
  |x=>x
 |.cond c a b,st,hs=>match l7 0 [] st.Γ (cl P need [] c) with
  |some (.bool x)=>match hs with
   |.b true::hs=>match kb P need rd call a st hs with
    |.ct ⟨r,cs,c_⟩=>.ct ⟨r,(x=true)::cs,c_⟩
    |.stop w x=>.stop w x
   |.b false::hs=>match kb P need rd call b st hs with
    |.ct ⟨r,cs,c_⟩=>.ct ⟨r,(x=false)::cs,c_⟩
    |.stop w x=>.stop w x
   |_=>.stop "if" (some x)
  |_=>.stop "if what" none
 |.block id b,st,hs=>match kb P need rd call b st hs with
  |.ct ⟨(.exit i,bG),cs,c_⟩=>match Nat.beq i id with
   |true=>.ct ⟨(.nrm,bG),cs,c_⟩
   |false=>.ct ⟨(.exit i,bG),cs,c_⟩
  |x=>x
 |.loop b,st,hs=>match hs with
  |.loop e bG::hs=>.ct ⟨(e,bG),[dT P need rd call (.loop b) st e bG],hs⟩
  |_=>.stop "loop" none
 |.rangeFunc f ps as bV,st,hs=>match hs with
  |.loop e bG::hs=>.ct ⟨(e,bG),[dT P need rd call (.rangeFunc f ps as bV) st e bG],hs⟩
  |_=>.stop "range over a function" none
 |.goto _,_,_=>.stop "goto" none
 |.refuse _,_,_=>.stop "refuse" none
theorem Cs:∀(p q:hg),p.num=q.num->p=q
 |.here,.here,_=>rfl
 |.here,.l q,h=>by simp only[hg.num] at h;omega
 |.here,.r q,h=>by simp only[hg.num] at h;omega
 |.l p,.here,h=>by simp only[hg.num] at h;omega
 |.r p,.here,h=>by simp only[hg.num] at h;omega
 |.l p,.l q,h=>by rw[Cs p q (by simp only[hg.num] at h;omega)]
 |.r p,.r q,h=>by rw[Cs p q (by simp only[hg.num] at h;omega)]
 |.l p,.r q,h=>by simp only[hg.num] at h;omega
 |.r p,.l q,h=>by simp only[hg.num] at h;omega
theorem Hu(p:hg):fV p.num=p:=Cs _ _ (xN _)
theorem rJ(t u:Nat):(t=u/\Nat.beq t u=true)\/(t≠u/\Nat.beq t u=false):=by
 by_cases h:t=u
 · exact .inl ⟨h,by simp[h]⟩
 · refine .inr ⟨h,?_⟩
   cases ae:Nat.beq t u with
   |false=>rfl
   |true=>exact absurd (Nat.eq_of_beq_eq_true ae) h
theorem Ct(t u:Nat):∀Γ:Env,dp t (del u Γ)=if t=u then none else dp t Γ
 |[]=>by simp[del,dp]
 |(x,v)::l=>by
  have a3:=Ct t u l
  simp only[del]
  rcases rJ u x with⟨e,ae⟩|⟨e,ae⟩
  · rw[ae];simp only[a3,dp]
    subst e
    rcases rJ t u with⟨av,e9⟩|⟨av,e9⟩
    · rw[if_pos av,if_pos av]
    · rw[if_neg av,if_neg av,e9]
  · rw[ae];simp only[dp,a3]
    rcases rJ t x with⟨av,e9⟩|⟨av,e9⟩
    · rw[e9];simp only[]
      rw[if_neg]
      intro h;exact e (by rw[<-h,av])
    · rw[e9]
theorem PM(t u:Nat)(v:I)(Γ:Env):dp t (put u v Γ)=if t=u then some v else dp t Γ:=by
 simp only[put,dp]
 rcases rJ t u with⟨e,ae⟩|⟨e,ae⟩
 · rw[ae,if_pos e]
 · rw[ae,if_neg e,Ct,if_neg e]
theorem Mod.put{r:aN}{Γ:Env}(h:Mod r Γ)(t:Nat)(v:I):Mod (r.set (fV t) v) (put t v Γ):=by
 intro u x J
 rw[PM] at J
 rw[aN.cD]
 by_cases e:u=t
 · rw[if_pos e] at J⊢;cases J;rfl
 · rw[if_neg e] at J⊢;exact h u x J
theorem Mod.del{r:aN}{Γ:Env}(h:Mod r Γ)(t:Nat)(v:I):Mod (r.set (fV t) v) (del t Γ):=by
 intro u x J
 rw[Ct] at J
 rw[aN.cD]
 by_cases e:u=t
 · rw[if_pos e] at J;cases J
 · rw[if_neg e] at J⊢;exact h u x J
theorem Cu(Γ:Env)(t:Nat)(v:I):∀l,dp t (lk Γ l)=some v->dp t Γ=some v
 |[],h=>by simp[lk,dp] at h
 |u::l,h=>by
  simp only[lk] at h
  cases hu:dp u Γ with
  |none=>rw[hu] at h;exact Cu Γ t v l h
  |some x=>
   rw[hu] at h
   simp only[dp] at h
   rcases rJ t u with⟨e,ae⟩|⟨e,ae⟩
   · rw[ae] at h;rw[e,hu];exact h
   · rw[ae] at h;exact Cu Γ t v l h
theorem Mod.lk{r:aN}{Γ:Env}(h:Mod r Γ)(l:List Nat):Mod r (lk Γ l):=λt v bm=>h t v (Cu Γ t v l bm)
theorem rK{m:Nat}{env:List I}{r:aN}{Γ:Env}(hm:Mod r Γ){a:Acc}{v:I}(h:l7 m env Γ a=some v):c1 m env r a=v:=by
 cases a with
 |env j=>simp only[l7] at h;simp only[c1,h,Option.getD_some]
 |j1 p=>simp only[l7] at h;simp only[c1];rw[<-Hu p];exact hm _ _ h
 |val x=>cases h;rfl
section
variable {P:Program}
theorem rL{o:Oper}{g:Operand->I}{h:ab}{v:I}(af:mU P o g h v):cj P o g h=.val v h:=by
 obtain⟨dst,op,type,pos,after,guard⟩:=o
 cases op<;>simp only[mU] at af<;>(try exact af.elim)
 case load t a=>
  split at af
  · rename_i b off n aj aw aH
    simp only[cj,aj,aw,af,eS]
  · rename_i b off n aj aw aH
    split at af
    · simp only[cj,aj,aw,aH,af]
    · exact af.elim
  · exact af.elim
 case binOp op t x y yt=>
  split at af
  · rename_i k a dA b J aO
    split at af
    · simp only[cj,J,aO,e1,af,eS]
    · simp only[cj,J,aO,e1,af,eS]
    · rename_i gW iW
      split at af
      · rename_i an
        have ek:k=dA:=of_decide_eq_true an
        simp only[cj,J,aO,e1]
        cases op<;>first|exact absurd rfl gW|exact absurd rfl iW|(simp only[if_pos ek,af,eS])
      · exact af.elim
  · rename_i a b J aO
    simp only[cj,J,aO,e1,af,eS]
  · simp only[cj,af,eS]
 case unOp op t x=>
  split at af
  · rename_i k n J;simp only[cj,J,af]
  · rename_i k n J;simp only[cj,J,af,eS]
  · exact af.elim
 case slice t x aY ag mx=>simp only[cj,af,eS]
 case index t x i=>
  split at af
  · rename_i s n hu J ag
    unfold ln at af
    simp only[cj,hu,J,ag]
    split at af
    · rename_i eC ae;cases af;simp only[ae]
    · cases af
  · rename_i m e cs n hu J ag
    split at af
    · rename_i sz bh
      simp only[cj,hu,J,ag,bh,if_pos af.1,af.2,eS]
    · exact af.elim
  · exact af.elim
 case indexAddr t x i=>
  split at af
  · rename_i m e b off n hu J ag
    split at af
    · rename_i sz bh
      simp only[cj,hu,J,ag,bh,if_pos af.1,af.2]
    · exact af.elim
  · rename_i e b off m c n hu J ag
    split at af
    · rename_i sz bh
      simp only[cj,hu,J,ag,bh,if_pos af.1,af.2]
    · exact af.elim
  · exact af.elim
 case lookup t x i ok=>simp only[cj,af,eS]
 case entry it=>simp only[cj,af,eS]
 case convert src dst x=>simp only[cj,af]
 case call c=>
  split at af
  · rename_i x t h9 gD bm;simp only[cj,h9,gD,g5,bm,af,eS]
  · rename_i x t h9 gD bm;simp only[cj,h9,gD,g5,bm,af,eS]
  · rename_i x l _ h9 gD;simp only[cj,h9,gD,g5,af,eS]
  · rename_i x l _ h9 gD;simp only[cj,h9,gD,g5,af,eS]
  · rename_i x t h9 gD bm
    simp only[cj,h9,gD]
    simp only[g5,bm] at af⊢
    exact af
  · exact af.elim
theorem Hv:∀(n:Nat) (cs bw:List I),ff n [I.bad] cs=some bw->False
 |0,[],_,h=>by simp[ff] at h
 |0,_::_,_,h=>by simp[ff,I.cw] at h
 |_+1,[],_,h=>by simp[ff] at h
 |n+1,c::cs,bw,h=>by
  simp only[ff] at h
  split at h
  · rename_i r ai;exact Hv n cs r ai
  · cases h
theorem PN{h ao:ab}{b off:Nat}(hs:a8.storeCells h b off (I.cells .bad)=some ao):False:=by
 unfold a8.storeCells at hs
 split at hs
 · split at hs
   · split at hs
     · rename_i aL;exact Hv _ _ _ aL
     · cases hs
   · cases hs
 · cases hs
theorem Cv{o:Oper}{g:Operand->I}{h ao:ab}{v:I}(af:tz P o g h v ao):cj P o g h=.val v ao:=by
 obtain⟨dst,op,type,pos,after,guard⟩:=o
 cases op<;>simp only[tz] at af<;>(try exact af.elim)
 case store t a x=>
  split at af
  · rename_i b off aj
    obtain⟨aa,ad,rfl⟩:=af
    simp only[cj,aj]
    rw[aa]
    have ae:g x≠ .bad:=λae=>by
     rw[ae] at ad
     exact PN ad
    cases p7:g x<;>first|exact absurd p7 ae|(rw[p7] at ad;simp[ad,oj])
  · exact af.elim
 case convert src dst x=>simp only[cj,af]
 case mapUpdate t m k x=>obtain⟨aa,rfl⟩:=af;simp only[cj,aa,oj]
 case insert t m k x=>obtain⟨aa,rfl⟩:=af;simp only[cj,aa,oj]
 case mapEntry t m k=>simp only[cj,af,j2]
 case entryStore t m s x=>obtain⟨aa,rfl⟩:=af;simp only[cj,aa,oj]
 case next it isStr=>simp only[cj,af,j2]
 case range t x=>
  split at af
  · rename_i kt h2 hu
    unfold yP at af
    split at af
    · rename_i m aj
      split at af
      · rename_i es c hm
        cases af
        simp only[cj,hu,aj,hm]
      · cases af
    · cases af
  · exact af.elim
 case makeSlice t l c=>
  unfold yO at af
  simp only[cj]
  split at af
  · rename_i e mJ c' hu ar vV
    split at af
    · rename_i i z ag aP
      simp only[hu,ar,vV,ag,aP]
      split at af
      · rename_i jm
        rw[if_pos jm]
        split at af
        · rename_i b ah aH;cases af;simp only[aH]
        · cases af
      · cases af
    · cases af
  · cases af
 case call c=>
  split at af
  · rename_i x y t h9 gD bm;simp only[cj,h9,gD,g5,bm,af,j2]
  · rename_i x y t h9 gD bm;simp only[cj,h9,gD,g5,bm,af,j2]
  · rename_i x t h9 gD bm;simp only[cj,h9,gD,g5,bm,af,j2]
  · rename_i x y t h9 gD bm;simp only[cj,h9,gD,g5,bm,af,j2]
  · rename_i x y t h9 gD bm;simp only[cj,h9,gD,g5,bm,af,j2]
  · exact af.elim
variable {inR:Bool} {call:bt}
theorem Hw{pos:String}{f:dB}{args:List I}{d:List bz}{q:bu}{h:ab}{hs:List Hint}{y:fZ lo}(J:yQ call pos f args d q h hs=.ct y)(af:dX y.cs):u0 d q (call f args h)=y.res.res:=by
 unfold yQ at J
 split at J
 · cases J;rw[af.1];rfl
 · cases J;rw[af.1];rfl
 · cases J
theorem PO{o:Oper}{g:Operand->I}{d:List bz}{q:bu}{h:ab}{hs:List Hint}{y:fZ lo}(J:Cm P inR call o g d q h hs=.ct y)(af:dX y.cs):
  dc P inR call none o g d q h=y.res.res:=by
 unfold Cm at J
 unfold dc
 simp only[dC]
 split at J
 · cases J
   rw[rL af.1];rfl
 · split at J
   · rename_i e x c_ bg
     cases J
     have aa:(g x).cells.all I.cw=true:=af.1.h
     have he:o.op=.box e x:=by
      unfold Hm at bg
      split at bg
      · split at bg
        · rename_i he;cases bg;exact he
        · cases bg
      · cases bg
     have:cj P o g h=.val (.ptr h.n 0) (h.push (.cells (g x).cells e .own 0 0)):=by
      unfold cj;rw[he];simp only[newRow,aa]
     rw[this];rfl
   · split at J
     · split at J
       · rename_i eD;cases J;rw[eD];rfl
       · rename_i eD;cases J;rw[eD];rfl
       · rename_i eD;rw[eD];exact Hw J af
       · rename_i eD;rw[eD];exact Hw J af
       · rename_i z eD
         split at J
         · cases J
         · cases J;rw[eD];rfl
       · rename_i eD
         split at J
         · cases J
         · split at J
           · cases J;rw[eD];rfl
           · cases J;rw[eD];rfl
           · cases J;rw[eD];rfl
       · cases J
     · split at J
       · cases J
         rw[rL af.1];rfl
       · cases J
     · split at J
       · cases J
         rw[Cv af.1];rfl
       · cases J
theorem Hx{o:Oper}{g:Operand->I}{d:List bz}{q:bu}{h:ab}{hs:List Hint}{y:fZ lo}(J:yR P inR call o g d q h hs=.ct y)(af:dX y.cs):
  dc P inR call none o g d q h=y.res.res:=by
 unfold yR at J
 cases aL:Cn o g d q h hs with
 |none=>rw[aL] at J;exact PO J af
 |some z=>
  rw[aL] at J
  simp only at J
  subst J
  unfold Cn at aL
  split at aL
  · rename_i fc a b dO
    split at aL
    · rename_i eC aj
      split at aL
      · cases aL
        obtain⟨rfl,_⟩:=af
        unfold dc cj
        simp[dC,dO,aj,lo.res]
      · cases aL
        obtain⟨rfl,_⟩:=af
        unfold dc cj
        simp[dC,dO,aj,lo.res]
      · cases aL
    · cases aL
  · cases aL
theorem tD{gd:Option (I×Bool)}(hw:dC gd=some true)(o:Oper)(g:Operand->I)(d:List bz)(q:bu)(h:ab):dc P inR call gd o g d q h=dc P inR call none o g d q h:=by
 unfold dc
 rw[hw]
 rfl
theorem v8{gd:Option (I×Bool)}(hw:dC gd=some false)(o:Oper)(g:Operand->I)(d:List bz)(q:bu)(h:ab):dc P inR call gd o g d q h=.ok (.aJ []) d q h:=by
 unfold dc
 simp only[hw]
theorem v9{gd:Option (I×Bool)}{o:Oper}{g:Operand->I}{d:List bz}{q:bu}{h:ab}{hs:List Hint}{y:fZ lo}(J:tA P inR call gd o g d q h hs=.ct y)(af:dX y.cs):
  dc P inR call gd o g d q h=y.res.res:=by
 unfold tA at J
 split at J
 · exact Hx J af
 · rename_i Yi b
   split at J
   · rename_i c gW
     split at J
     · rename_i kD
       split at J
       · rename_i s iE iW eT
         cases J
         obtain⟨rfl,nP⟩:=af
         rw[tD (by simp only[dC];rw[kD])]
         exact(Hx eT nP:)
       · cases J
     · rename_i kD
       cases J
       obtain⟨rfl,_⟩:=af
       rw[v8 (by simp only[dC];rw[kD])];rfl
   · cases J
 · cases J
   rw[v8 rfl];rfl
 · cases J
variable {need:Nat}
theorem yZ{m:Nat}{env:List I}{r:aN}{Γ:Env}(hm:Mod r Γ){loc:List (Nat×Acc)}{o:Oper}(an:tB P need m env Γ loc o=true):∀x∈o.op.operands,c1 m env r (cl P need loc x)=jO P need m env Γ loc x:=by
 intro x J
 unfold tB at an
 rw[List.all_eq_true] at an
 have:=an x (by simpa using J)
 obtain⟨v,aD⟩:=Option.isSome_iff_exists.1 this
 unfold jO
 rw[aD,rK hm aD];rfl
theorem Hy{r:aN}{Γ:Env}(hm:Mod r Γ):∀(l:List Step) (env:List I) (d:List bz) (q:bu) (h:ab) (hs:List Hint) (y:fZ k3),yS P need inR call Γ l env d q h hs=.ct y->dX y.cs->
  hh P need inR call r l env d q h=y.res
 |[],env,d,q,h,hs,y,J,af=>by cases J;rfl
 |s::rest,env,d,q,h,hs,y,J,af=>by
  simp only[yS] at J
  split at J
  · cases J
  · rename_i an
    split at J
    · cases J
    · rename_i gd fp
      have key:∀z,dc P inR call gd s.o (jO P need s.m env Γ s.loc) d q h=z->hh P need inR call r (s::rest) env d q h=match z with
        |.ok v aW a0 ao=>hh P need inR call r rest (v::env) aW a0 ao
        |.bK v aW a0 ao=>.bK v aW a0 ao
        |.fail w=>.fail w:=λz aP=>by
       simp only[hh]
       rw[<-aP,<-rC (yZ hm an)]
       unfold Hn at fp
       cases B7:s.guard with
       |none=>rw[B7] at fp;cases fp;rfl
       |some p=>
        obtain⟨a,b⟩:=p
        rw[B7] at fp
        simp only at fp
        cases aD:l7 s.m env Γ a with
        |none=>rw[aD] at fp;cases fp
        |some v=>rw[aD] at fp;cases fp;simp only[rK hm aD];rfl
      split at J
      · rename_i v aW a0 ao iE gW eU
        split at J
        · rename_i z v_ iW lU
          cases J
          obtain⟨aT,bp⟩:=dX.append af
          have aa:=v9 eU aT
          have hF:dc P inR call gd s.o (jO P need s.m env Γ s.loc) d q h=.ok v aW a0 ao:=aa
          rw[key _ hF]
          exact(Hy hm rest (v::env) aW a0 ao gW _ lU bp:)
        · cases J
      · rename_i v aW a0 ao iE gW eU
        cases J
        have aa:=v9 eU af
        have hF:dc P inR call gd s.o (jO P need s.m env Γ s.loc) d q h=.bK v aW a0 ao:=aa
        rw[key _ hF]
      · cases J
theorem y0{m:Nat}{env:List I}{eM:aN}{fs:Env}(hm:Mod eM fs):∀(l:List (Nat×Acc)) (r:aN) (Γ:Env),Mod r Γ->Mod (nw need m env eM l r) (oR need m env fs l Γ)
 |[],r,Γ,h=>h
 |(t,a)::l,r,Γ,h=>by
  have a3:=y0 (m:=m) (env:=env) hm l r Γ h
  simp only[nw,oR]
  cases Nat.testBit need t with
  |false=>exact a3
  |true=>
   simp only
   cases aj:l7 m env fs a with
   |some v=>simp only;rw[rK hm aj];exact a3.put t v
   |none=>simp only;exact a3.del t _
theorem Cw:∀(l:List (Nat×Acc)) (r:aN) (Γ:Env),Mod r Γ->Mod (sS l r) (yT l Γ)
 |[],r,Γ,h=>h
 |(t,a)::l,r,Γ,h=>(Cw l r Γ h).del t _
mutual
theorem rM:∀v:I,v.sound=true->I.beq v v=true
 |.bool b,_=>by simp[I.beq]
 |.int k n,_=>by simp[I.beq,cW]
 |.str s,_=>by simp[I.beq,nF]
 |.br,_=>rfl
 |.ptr a i,_=>by simp[I.beq]
 |.bd,_=>rfl
 |.slice a i n c,_=>by cases c<;>simp[I.beq,c7.beq]
 |.g2,_=>rfl
 |.map a,_=>by simp[I.beq]
 |.eY,_=>rfl
 |.fn f a b,h=>by
  simp only[I.sound,Bool.and_eq_true] at h
  simp only[I.beq,wa a h.1,wa b h.2,Bool.and_true]
  simp
 |.cS a,_=>by simp[I.beq]
 |.ea,_=>rfl
 |.iface t v,h=>by
  simp only[I.sound] at h
  simp only[I.beq,rM v h,Bool.and_true]
  simp
 |.agg l,h=>by
  simp only[I.sound] at h
  simp only[I.beq,wa l h]
 |.aJ l,h=>by
  simp only[I.sound] at h
  simp only[I.beq,wa l h]
 |.bad,h=>by simp[I.sound] at h
theorem wa:∀l:List I,iv l=true->I.lN l l=true
 |[],_=>rfl
 |a::l,h=>by
  simp only[iv,Bool.and_eq_true] at h
  simp only[I.lN,rM a h.1,wa l h.2,Bool.and_true]
end
theorem Cx{ops:Array Oper}{r:aN}{Γ:Env}(hm:Mod r Γ){n:Nat}{env:List I}{s:DStep}{gd:Option (I×Bool)}(h:v5 P need ops n env Γ s=some gd):fN P need ops r n env s=gd:=by
 unfold v5 at h
 unfold fN
 split at h
 · rename_i aj;rw[aj];cases h;rfl
 · rename_i a b aj
   rw[aj]
   split at h
   · rename_i v aD
     cases h
     simp only[rK hm aD]
   · cases h
def PQ(P:Program)(need:Nat)(inR:Bool)(call:bt)(ops:Array Oper)(r:aN)(cm:Nat)(s:DStep)(st bG:iI):Prop:=
 ∀rest,fg P need inR call ops r cm (s::rest) st.env st.d st.q st.h st.aX=fg P need inR call ops r cm rest bG.env bG.d bG.q bG.h bG.aX
theorem Hz{ops:Array Oper}{r:aN}{Γ:Env}(hm:Mod r Γ){cm:Nat}{s:DStep}{st:iI}{hs:List Hint}{y:fZ iI}(J:yU P need inR call ops Γ cm s st hs=.ct y)(af:dX y.cs):PQ P need inR call ops r cm s st y.res:=by
 intro rest
 unfold yU at J
 split at J
 · cases J
 · rename_i an
   have aj:=yZ hm an
   split at J
   · cases J
   · rename_i gd fp
     have ak:=Cx hm fp
     split at J
     · rename_i f_
       have aw:=vO (P:=P) (o:=s.o.op) (b:=cm+s.i) aj
       simp only[fg,f_,ak]
       rw[aw]
       unfold Hs at J
       split at J
       · split at J
         · cases J
           have gC:=Hr af.1
           simp only[dC,gC]
         · split at J
           · rename_i v o gC
             cases J
             simp only[dC,gC]
           · cases J
       · split at J
         · rename_i x c _ hV gW
           split at J
           · rename_i Cy
             split at J
             · rename_i v o gC
               cases J
               obtain⟨rfl,_⟩:=af
               simp only[dC,Cy,gC]
             · cases J
           · rename_i Cy
             cases J
             obtain⟨rfl,_⟩:=af
             simp only[dC,Cy]
         · cases J
       · cases J
         simp only[dC]
       · cases J
     · rename_i f_
       simp only[fg,f_,ak]
       rw[rC aj]
       split at J
       · rename_i v aW a0 ao iE gW eU
         cases J
         have aa:=v9 eU af
         have hF:dc P inR call gd s.o (jO P need s.i st.env Γ s.loc) st.d st.q st.h=.ok v aW a0 ao:=aa
         rw[hF]
       · cases J
       · cases J
     · rename_i f_
       split at J
       · cases J
       · rename_i j9
         simp only[fg,f_,ak]
         rw[rC aj]
         split at J
         · rename_i v aW a0 ao iE gW eU
           cases J
           have aa:=v9 eU af
           have hF:dc P inR call gd s.o (jO P need s.i st.env Γ s.loc) st.d st.q st.h=.ok v aW a0 ao:=aa
           rw[hF]
           cases bY:st.aX with
           |nil=>rfl
           |cons a l=>
            obtain⟨e,m,ah⟩:=a
            rw[bY] at j9
            simp only[rI] at j9
            simp only[j9]
         · cases J
         · cases J
theorem HA{ops:Array Oper}{r:aN}{Γ:Env}(hm:Mod r Γ){cm:Nat}:∀(l:List DStep) (st:iI) (hs:List Hint) (y:fZ iI),yV P need inR call ops Γ cm l st hs=.ct y->dX y.cs->
  fg P need inR call ops r cm l st.env st.d st.q st.h st.aX=.ok y.res.env y.res.d y.res.q y.res.h y.res.aX
 |[],st,hs,y,J,af=>by cases J;rfl
 |s::rest,st,hs,y,J,af=>by
  simp only[yV] at J
  split at J
  · rename_i st1 iE gW aa
    split at J
    · rename_i iX v_ iW ad
      cases J
      obtain⟨aT,bp⟩:=dX.append af
      rw[Hz hm aa aT rest]
      exact(HA hm rest st1 gW ⟨iX,v_,iW⟩ ad bp:)
    · cases J
  · cases J
theorem PR{o:Oper}{g:Operand->I}{h:ab}{v:I}(af:dX (v7 P o g h v)):∃v' ao,cj P o g h=.val v' ao/\I.beq v' v=true:=by
 unfold v7 at af
 split at af
 · rename_i x a b aL
   obtain⟨aa,ad,_⟩:=af
   refine⟨v,h,?_,rM v aa⟩
   unfold Ht at aL
   split at aL
   · rename_i c cb g7 aQ
     split at aL
     · rename_i O6 y1
       cases aL
       cases x<;>simp only[cj,aQ,y1]<;>rw[<-ad]<;>rfl
     · cases aL
   · cases aL
 split at af
 · exact⟨v,h,rL af.2.1,rM v af.1⟩
 split at af
 · exact⟨v,h,rL af.2.1,rM v af.1⟩
 · split at af
   · rename_i v' ao he
     obtain⟨aa,rfl,_⟩:=af
     exact⟨v',ao,he,rM v' aa⟩
   · exact af.1.elim
theorem HB{ops:Array Oper}{r:aN}{Γ:Env}(hm:Mod r Γ){n:Nat}{env:List I}{s:DStep}{v:I}{h:ab}(af:dX (Cp P need ops Γ n env s v h)):kA P need ops r n env s v h=true:=by
 unfold Cp at af
 unfold kA
 split at af
 · rename_i gd an fp
   rw[Cx hm fp]
   have aj:=yZ hm an
   have key:dX (v7 P s.o (jO P need n env Γ s.loc) h v)->(match cj P s.o (λx=>c1 n env r (cl P need s.loc x)) h with
     |.val v' _=>I.beq v' v
     |_=>false)=true:=λar=>by
    rw[vN s.o h aj]
    obtain⟨v',ao,ax,av⟩:=PR ar
    rw[ax];exact av
   split at af
   · simp only[dC];exact key af
   · rename_i x b
     simp only[dC]
     obtain⟨af,_⟩:=af
     unfold lookW at af
     split at af
     · rw[af]
     · cases ta:(x==b) with
       |false=>rfl
       |true=>exact key af
   · rfl
   · exact af.1.elim
 · exact af.1.elim
theorem y2{ops:Array Oper}{r:aN}{n:Nat}{env:List I}{s:DStep}{v:I}(df:Option Nat)(h:ab)(aX:l8):jB P need ops r n env s v df h aX=
  ((match oS s df aX with|true=>true|false=>kA P need ops r n env s v h)&&(match aX with|[]=>true|(e,_,ao)::rest=>jB P need ops r n env s v (some e) ao rest)):=by
 cases aX<;>(rw[jB.eq_def];rfl)
theorem Cz{ops:Array Oper}{r:aN}{Γ:Env}(hm:Mod r Γ){n:Nat}{env:List I}{s:DStep}{v:I}:∀(aX:l8) (df:Option Nat) (h:ab),dX (tC P need ops Γ n env s v df h aX)->jB P need ops r n env s v df h aX=true
 |[],df,h,af=>by
  rw[y2]
  unfold tC at af
  obtain⟨aT,_⟩:=dX.append af
  cases ae:oS s df [] with
  |true=>rfl
  |false=>rw[ae] at aT;simp only[Bool.and_true];exact HB hm aT
 |(e,m,ao)::rest,df,h,af=>by
  rw[y2]
  unfold tC at af
  obtain⟨aT,bp⟩:=dX.append af
  have a3:=Cz hm rest (some e) ao bp
  cases ae:oS s df ((e,m,ao)::rest) with
  |true=>simp only[Bool.true_and];exact a3
  |false=>
   rw[ae] at aT
   simp only
   rw[HB hm aT,Bool.true_and];exact a3
theorem HC{ops:Array Oper}{r:aN}{Γ:Env}(hm:Mod r Γ){n:Nat}{env:List I}{h:ab}{aX:l8}:∀(l:List DStep),dX (yX P need ops Γ n env h aX l)->j3 P need ops r n env none h aX l=true
 |[],_=>rfl
 |s::rest,af=>by
  simp only[yX] at af
  obtain⟨aT,bp⟩:=dX.append af
  simp only[j3]
  rw[HC hm rest bp,Bool.and_true]
  cases aa:Nat.blt s.i n with
  |false=>rfl
  |true=>
   rw[aa] at aT
   cases ad:kindOf P s.o.op with
   |pure=>rw[ad] at aT;exact Cz hm aX none h aT
   |alloc=>rfl
   |du=>rfl
theorem PS{ops:Array Oper}{r:aN}{Γ:Env}(hm:Mod r Γ){cm:Nat}{s:DStep}{rest:List DStep}{st:iI}{hs:List Hint}{y:fZ (I×iI)}(J:Co P need inR call ops Γ s rest st hs=.ct y)(af:dX y.cs):
  fg P need inR call ops r cm (s::rest) st.env st.d st.q st.h st.aX=.bK y.res.1 y.res.2.env y.res.2.d y.res.2.q y.res.2.h y.res.2.aX:=by
 unfold Co at J
 split at J
 · cases J
 · rename_i an
   have aj:=yZ hm an
   split at J
   · cases J
   · rename_i gd fp
     have ak:=Cx hm fp
     split at J
     · rename_i f_
       split at J
       · cases J
       · rename_i j9
         simp only[fg,f_,ak]
         rw[rC aj]
         split at J
         · rename_i v aW a0 ao iE gW eU
           split at J
           · rename_i dx
             cases J
             have aa:=v9 eU af
             have hF:dc P inR call gd s.o (jO P need s.i st.env Γ s.loc) st.d st.q st.h=.bK v aW a0 ao:=aa
             rw[hF]
             cases bY:st.aX with
             |nil=>simp only[dx]
             |cons a l=>
              obtain⟨e,m,ah⟩:=a
              rw[bY] at j9
              simp only[rI] at j9
              simp only[j9,dx]
           · cases J
         · cases J
     · cases J
theorem HD{ops:Array Oper}{r:aN}{Γ:Env}(hm:Mod r Γ){cm:Nat}:∀(l:List DStep) (st:iI) (hs:List Hint) (y:fZ (I×iI)),yW P need inR call ops Γ cm l st hs=.ct y->dX y.cs->
  fg P need inR call ops r cm l st.env st.d st.q st.h st.aX=.bK y.res.1 y.res.2.env y.res.2.d y.res.2.q y.res.2.h y.res.2.aX
 |[],st,hs,y,J,af=>by cases J
 |s::rest,st,hs,y,J,af=>by
  simp only[yW] at J
  split at J
  · rename_i hV aa
    cases J
    exact PS hm aa af
  · split at J
    · rename_i st1 iE gW aa
      split at J
      · rename_i iX v_ iW ad
        cases J
        obtain⟨aT,bp⟩:=dX.append af
        rw[Hz hm aa aT rest]
        exact(HD hm rest st1 gW ⟨iX,v_,iW⟩ ad bp:)
      · cases J
    · cases J
theorem HE{ops:Array Oper}{r:aN}{Γ:Env}(hm:Mod r Γ){n:Nat}{env:List I}{last:Option Nat}{h:ab}{aX:l8}:∀(l:List DStep),dX (yY P need ops Γ n env last h aX l)->j3 P need ops r n env last h aX l=true
 |[],_=>rfl
 |s::rest,af=>by
  simp only[yY] at af
  obtain⟨aT,bp⟩:=dX.append af
  simp only[j3]
  rw[HE hm rest bp,Bool.and_true]
  cases aa:Nat.blt s.i n with
  |false=>rfl
  |true=>
   rw[aa] at aT
   cases ad:kindOf P s.o.op with
   |pure=>rw[ad] at aT;exact Cz hm aX last h aT
   |alloc=>rfl
   |du=>rfl
theorem PT{id:Nat}{ops:Array Oper}{rd:Option Nat}{st:au}{hs:List Hint}{y:fZ (bk×au)}(J:Cq P need rd.isSome call ops st hs=.ct y)(af:dX y.cs):dT P need rd call (.region id ops true) st y.res.1 y.res.2:=by
 unfold Cq at J
 split at J
 · rename_i v env d q h e m h0 aX iE gW ak
   cases J
   obtain⟨aT,bp⟩:=dX.append af
   intro r hm
   have aa:=HD hm _ _ _ _ ak aT
   have ad:=HE hm _ bp
   simp only at aa
   refine⟨_,?_,Cw _ _ _ hm⟩
   have hF:fg P need rd.isSome call ops r st.h.n (ei ops.toList 0 [] []) [] st.d st.q ⟨st.h.t,st.h.n+ops.size⟩ []=.bK v env d q h ((e,m,h0)::aX):=aa
   simp only[c2,qU,hF,ad,k4]
 · cases J
 · cases J
theorem PU{id:Nat}{ops:Array Oper}{rd:Option Nat}{st:au}{hs:List Hint}{y:fZ (bk×au)}(J:Cr P need rd.isSome call ops st hs=.ct y)(af:dX y.cs):dT P need rd call (.region id ops true) st y.res.1 y.res.2:=by
 unfold Cr at J
 split at J
 · rename_i env d q h aX iE gW ak
   cases J
   obtain⟨aT,bp⟩:=dX.append af
   intro r hm
   have aa:=HA hm _ _ _ _ ak aT
   have ad:=HC hm _ bp
   simp only at aa
   refine⟨_,?_,y0 hm _ _ _ hm⟩
   have hF:fg P need rd.isSome call ops r st.h.n (ei ops.toList 0 [] []) [] st.d st.q ⟨st.h.t,st.h.n+ops.size⟩ []=.ok env d q h aX:=aa
   simp only[c2,qU,hF,ad,k4]
 · exact PT J af
variable {rd:Option Nat}
theorem nQ:∀(c:Code) (st:au) (hs:List Hint) (y:fZ (bk×au)),kb P need rd call c st hs=.ct y->dX y.cs->dT P need rd call c st y.res.1 y.res.2
 |.skip,st,hs,y,J,af=>by cases J;exactλr ai=>⟨r,rfl,ai⟩
 |.label _,st,hs,y,J,af=>by cases J;exactλr ai=>⟨r,rfl,ai⟩
 |.exit id,st,hs,y,J,af=>by cases J;exactλr ai=>⟨r,rfl,ai⟩
 |.ret,st,hs,y,J,af=>by cases J;exactλr ai=>⟨r,rfl,ai⟩
 |.scope b,st,hs,y,J,af=>nQ b st hs y J af
 |.region id ops draw,st,hs,y,J,af=>by
  simp only[kb] at J
  cases draw with
  |true=>exact PU J af
  |false=>
   simp only at J
   split at J
   · rename_i x iE gW bY
     split at J
     · rename_i r1 CA
       cases J
       intro r ai
       have aa:=Hy ai _ _ _ _ _ _ _ bY af
       simp only at aa
       simp only[c2,aa]
       cases x with
       |ok env d q h=>cases CA;exact⟨_,rfl,y0 ai _ _ _ ai⟩
       |bK v d q h=>cases CA;exact⟨_,rfl,Cw _ _ _ ai⟩
       |fail w=>cases CA
     · cases J
   · cases J
 |.seq a b,st,hs,y,J,af=>by
  simp only[kb] at J
  split at J
  · rename_i st1 iE gW aw
    split at J
    · rename_i r2 v_ iW ae
      cases J
      obtain⟨aT,bp⟩:=dX.append af
      intro r ai
      obtain⟨r1,aa,aR⟩:=nQ a st hs _ aw aT r ai
      obtain⟨r2,ad,bD⟩:=nQ b st1 gW _ ae bp r1 aR
      exact⟨r2,by simp only at aa ad;simp only[c2,aa,om,ad],bD⟩
    · cases J
  · rename_i cF
    intro r ai
    obtain⟨r1,aa,aR⟩:=nQ a st hs y J af r ai
    refine⟨r1,?_,aR⟩
    simp only[c2,aa]
    refine rp (λcn=>?_)
    obtain⟨⟨ax,st1⟩,iE,gW⟩:=y
    simp only at cn
    subst cn
    exact cF _ _ _ J
 |.cond c a b,st,hs,y,J,af=>by
  simp only[kb] at J
  split at J
  · rename_i x aj
    split at J
    · split at J
      · rename_i r1 iE gW aw
        cases J
        obtain⟨rfl,aT⟩:=af
        intro r ai
        obtain⟨r1,aa,aR⟩:=nQ a st _ _ aw aT r ai
        exact⟨r1,by simp only at aa;simp only[c2,rK ai aj,aa],aR⟩
      · cases J
    · split at J
      · rename_i r1 iE gW aw
        cases J
        obtain⟨rfl,aT⟩:=af
        intro r ai
        obtain⟨r1,aa,aR⟩:=nQ b st _ _ aw aT r ai
        exact⟨r1,by simp only at aa;simp only[c2,rK ai aj,aa],aR⟩
      · cases J
    · cases J
  · cases J
 |.block id b,st,hs,y,J,af=>by
  simp only[kb] at J
  split at J
  · rename_i i st1 iE gW ae
    split at J
    · rename_i ag
      cases J
      obtain rfl:=Nat.eq_of_beq_eq_true ag
      intro r ai
      obtain⟨r1,aa,aR⟩:=nQ b st hs _ ae af r ai
      exact⟨r1,by simp only at aa;simp only[c2,aa,if_true],aR⟩
    · rename_i ag
      cases J
      intro r ai
      obtain⟨r1,aa,aR⟩:=nQ b st hs _ ae af r ai
      have cF:¬i=id:=by intro cn;subst cn;simp at ag
      exact⟨r1,by simp only at aa;simp only[c2,aa,if_neg cF],aR⟩
  · rename_i cF
    intro r ai
    obtain⟨r1,aa,aR⟩:=nQ b st hs y J af r ai
    refine⟨r1,?_,aR⟩
    obtain⟨⟨ax,st1⟩,iE,gW⟩:=y
    simp only at aa
    simp only[c2,aa]
    cases ax<;>first|rfl|exact absurd J (cF _ _ _ _)
 |.loop b,st,hs,y,J,af=>by
  simp only[kb] at J
  split at J
  · cases J;exact af.1
  · cases J
 |.rangeFunc f ps as bV,st,hs,y,J,af=>by
  simp only[kb] at J
  split at J
  · cases J;exact af.1
  · cases J
 |.goto _,st,hs,y,J,af=>by cases J
 |.refuse _,st,hs,y,J,af=>by cases J
end
def sub:Code->List Nat->Code
 |c,[]=>c
 |.seq a _,0::l=>sub a l
 |.seq _ b,_::l=>sub b l
 |.cond _ a _,0::l=>sub a l
 |.cond _ _ b,_::l=>sub b l
 |.block _ b,_::l=>sub b l
 |.loop b,_::l=>sub b l
 |.scope b,_::l=>sub b l
 |.rangeFunc _ _ a _,0::l=>sub a l
 |.rangeFunc _ _ _ b,_::l=>sub b l
 |c,_::_=>c
def en(fn:Func):Code:=fn.body.getD .skip
def cd:Env->Env->Prop
 |[],_=>True
 |(t,v)::l,Γ=>dp t Γ=some v/\cd l Γ
theorem cd.ok:∀{hW Γ:Env},cd hW Γ->∀t v,dp t hW=some v->dp t Γ=some v
 |[],Γ,_,t,v,h=>by simp[dp] at h
 |(u,x)::l,Γ,⟨aa,ad⟩,t,v,h=>by
  simp only[dp] at h
  rcases rJ t u with⟨e,ae⟩|⟨e,ae⟩
  · rw[ae] at h;cases h;rw[e];exact aa
  · rw[ae] at h;exact cd.ok ad t v h
theorem Mod.sub{r:aN}{Γ hW:Env}(h:Mod r Γ)(hs:cd hW Γ):Mod r hW:=λt v bm=>h t v (hs.ok t v bm)
section
variable {P:Program} {need:Nat} {rd:Option Nat} {call:bt}
def CB(cL:List Nat):jN (fZ (bk×au))->Option (fZ (bk×au))
 |.ct ⟨(e,⟨Γ,d,q,h⟩),cs,[]⟩=>some ⟨(e,⟨lk Γ cL,d,q,h⟩),cs,[]⟩
 |_=>none
theorem PV{c:Code}{st:au}{hs:List Hint}{e:bk}{bG:au}{cs:List Prop}(cL:List Nat)(J:CB cL (kb P need rd call c st hs)=some ⟨(e,bG),cs,[]⟩)(af:dX cs):dT P need rd call c st e bG:=by
 unfold CB at J
 split at J
 · rename_i ax fG d1 aV aa iE PW
   cases J
   intro r ai
   obtain⟨r1,aa,aR⟩:=nQ c st hs _ PW af r ai
   exact⟨r1,aa,aR.lk cL⟩
 · cases J
theorem dT.pre{c:Code}{st st1 bG:au}{e:bk}(h:dT P need rd call c st e bG)(hs:cd st.Γ st1.Γ)(ak:st1.d=st.d)(aE:st1.q=st.q)(ah:st1.h=st.h):dT P need rd call c st1 e bG:=by
 intro r ai
 obtain⟨r1,aa,aR⟩:=h r (ai.sub hs)
 exact⟨r1,by rw[ak,aE,ah];exact aa,aR⟩
theorem dT.post{c:Code}{st bG:au}{hW:Env}{e:bk}(h:dT P need rd call c st e bG)(hs:cd hW bG.Γ):dT P need rd call c st e {bG with Γ:=hW}:=by
 intro r ai
 obtain⟨r1,aa,aR⟩:=h r ai
 exact⟨r1,aa,aR.sub hs⟩
def mV(P:Program)(need:Nat)(rd:Option Nat)(call:bt)(b:Code)(n:Nat)(st:au)(e:bk)(bG:au):Prop:=
 ∀r,Mod r st.Γ->∃r',nx (c2 P need rd call b) n r st.d st.q st.h=.ok e r' bG.d bG.q bG.h/\Mod r' bG.Γ
theorem mV.step{b:Code}{n:Nat}{st st1 bG:au}{e:bk}(h:dT P need rd call b st .nrm st1)(ad:mV P need rd call b n st1 e bG):mV P need rd call b (n+1) st e bG:=by
 intro r ai
 obtain⟨r1,ax,aR⟩:=h r ai
 obtain⟨r2,av,bD⟩:=ad r1 aR
 exact⟨r2,by simp only[nx,ax,om,av],bD⟩
theorem mV.exit{b:Code}{n:Nat}{st bG:au}{e:bk}(h:dT P need rd call b st e bG)(he:e≠ .nrm):mV P need rd call b (n+1) st e bG:=by
 intro r ai
 obtain⟨r1,ax,aR⟩:=h r ai
 exact⟨r1,by simp only[nx,ax];exact rp he,aR⟩
theorem CC{f:aN->List bz->bu->ab->ik}:∀{n m:Nat},n<=m->∀{r d q h e r' aW a0 ao},nx f n r d q h=.ok e r' aW a0 ao->nx f m r d q h=.ok e r' aW a0 ao
 |0,_,_,_,_,_,_,_,_,_,_,_,h=>by cases h
 |n+1,0,hle,_,_,_,_,_,_,_,_,_,_=>by omega
 |n+1,m+1,hle,r,d,q,h,e,r',aW,a0,ao,J=>by
  simp only[nx] at J⊢
  cases hf:f r d q h with
  |fail w=>rw[hf] at J;cases J
  |ok ax r1 d1 aV aa=>
   rw[hf] at J
   cases ax<;>simp only[om] at J⊢ <;>first|exact CC (by omega) J|exact J
theorem mV.run{b:Code}{n:Nat}{st bG:au}{e:bk}(h:mV P need rd call b n st e bG)(aH:n<=100000):dT P need rd call (.loop b) st e bG:=by
 intro r ai
 obtain⟨r1,ax,aR⟩:=h r ai
 exact⟨r1,by simp only[c2];exact CC aH ax,aR⟩
def l9:Nat->List I->Env
 |_,[]=>[]
 |i,v::l=>(i,v)::l9 (i+1) l
theorem HF(t:Nat)(v:I):∀(l:List I) (i:Nat),dp t (l9 i l)=some v->i<=t/\t<i+l.length/\l[t-i]? =some v
 |[],i,h=>by simp[l9,dp] at h
 |x::l,i,h=>by
  simp only[l9,dp] at h
  rcases rJ t i with⟨e,ae⟩|⟨e,ae⟩
  · rw[ae] at h;cases h;subst e;simp
  · rw[ae] at h
    obtain⟨aa,ad,aq⟩:=HF t v l (i+1) h
    refine⟨by omega,by simp;omega,?_⟩
    have:t-i=(t-(i+1))+1:=by omega
    rw[this];simpa using aq
theorem y3(args:List I):Mod (lP 0 args .leaf) (l9 0 args):=by
 intro t v h
 obtain⟨aa,ad,aq⟩:=HF t v args 0 h
 rw[BJ,if_pos ⟨aa,ad⟩,aq];rfl
def nR(P:Program)(need:Nat)(Γ:Env)(h:ab)(x:ResultVar):Option I:=
 match x with
 |.tmp t=>match Nat.testBit need t with
  |true=>dp t Γ
  |false=>none
 |.cell t ty=>match Nat.testBit need t with
  |true=>match dp t Γ with
   |none=>none
   |some p=>match p,oh P ty,cY P ty with
    |.ptr b off,some true,some n=>(match loadCells h b off n with|some cs=>some (.agg cs)|none=>none)
    |.ptr b off,some false,_=>aB h b off
    |_,_,_=>none
  |false=>none
theorem PX{Γ:Env}{r:aN}(hm:Mod r Γ){h:ab}{x:ResultVar}{v:I}(J:nR P need Γ h x=some v):pw P need r h x=some v:=by
 cases x with
 |tmp t=>
  simp only[nR,pw] at J⊢
  split at J
  · rename_i ae
    rw[ae];simp only[hm t v J]
  · cases J
 |cell t ty=>
  simp only[nR,pw] at J⊢
  split at J
  · rename_i ae
    rw[ae]
    simp only
    cases ar:dp t Γ with
    |none=>rw[ar] at J;simp at J
    |some p=>rw[ar] at J;rw[hm t p ar];exact J
  · cases J
def p_(P:Program)(need:Nat)(fn:Func)(Γ:Env)(h:ab):Option I:=
 match ny (nR P need Γ h) fn.results.toList with
 |some [v]=>some v
 |some vs=>some (.aJ vs)
 |none=>none
theorem HG{Γ:Env}{r:aN}(hm:Mod r Γ){h:ab}:∀(l:List ResultVar) (vs:List I),ny (nR P need Γ h) l=some vs->ny (pw P need r h) l=some vs
 |[],vs,J=>J
 |x::l,vs,J=>by
  simp only[ny] at J⊢
  cases aa:nR P need Γ h x with
  |none=>rw[aa] at J;simp at J
  |some v=>
   rw[aa] at J
   cases ad:ny (nR P need Γ h) l with
   |none=>rw[ad] at J;simp at J
   |some ws=>
    rw[ad] at J
    rw[PX hm aa,HG hm l ws ad];exact J
theorem CD{Γ:Env}{r:aN}(hm:Mod r Γ){h:ab}{fn:Func}{v:I}(J:p_ P need fn Γ h=some v):oo P need fn r h=some v:=by
 unfold p_ at J
 unfold oo
 cases aw:ny (nR P need Γ h) fn.results.toList with
 |none=>rw[aw] at J;cases J
 |some vs=>
  rw[aw] at J
  rw[HG hm _ _ aw];exact J
variable {intr:Nat->List I->ab->Option (I×ab)}
theorem PY{f:Nat}{fn:Func}{c:Code}{n:Nat}{args:List I}{h:ab}(hf:P.funcs[f]? =some fn)(ae:fn.body=some c)(aH:c8 fn=need)(ag:intr f args h=none)(hle:Nat.ble args.length fn.ntmps=true)
  {e:bk}{Γ:Env}{q:bu}{ao:ab}(dW:dT P need none (et P intr n) c ⟨l9 0 args,[],.none,h⟩ e ⟨Γ,[],q,ao⟩)(he:e=.ret\/e=.nrm){v:I}(hT:p_ P need fn Γ ao=some v):
  et P intr (n+1) (.fn f) args h=.ret v ao:=by
 subst aH
 obtain⟨r1,aa,aR⟩:=dW _ (y3 args)
 have ai:=CD aR hT
 simp only[et,ag,oq,hf,ae,k5,hle,aa]
 rcases he with rfl|rfl<;>simp only[nz,h3,ai]
theorem PZ{f:Nat}{fn:Func}{c:Code}{n:Nat}{args:List I}{h:ab}(hf:P.funcs[f]? =some fn)(ae:fn.body=some c)(aH:c8 fn=need)(ag:intr f args h=none)(hle:Nat.ble args.length fn.ntmps=true)
  {v:I}{Γ:Env}{q:bu}{ao:ab}(dW:dT P need none (et P intr n) c ⟨l9 0 args,[],.none,h⟩ (.bK v) ⟨Γ,[],q,ao⟩):
  et P intr (n+1) (.fn f) args h=.bK v ao:=by
 subst aH
 obtain⟨r1,aa,aR⟩:=dW _ (y3 args)
 simp only[et,ag,oq,hf,ae,k5,hle,aa,nz,h3]
abbrev bS(P:Program)(fn:Func)(rd:Option Nat)(call:bt)(path:List Nat)(st:au)(e:bk)(bG:au):Prop:=dT P (c8 fn) rd call (sub (en fn) path) st e bG
abbrev P0(P:Program)(fn:Func)(rd:Option Nat)(call:bt)(path:List Nat)(st:au)(hs:List Hint):jN (fZ (bk×au)):=kb P (c8 fn) rd call (sub (en fn) path) st hs
theorem dR{fn:Func}{path:List Nat}{st:au}{hs:List Hint}{e:bk}{bG:au}{cs:List Prop}(cL:List Nat)(J:CB cL (P0 P fn rd call path st hs)=some ⟨(e,bG),cs,[]⟩)(af:dX cs):bS P fn rd call path st e bG:=PV cL J af
end
theorem HH:∀(c:Code) (x:Nat) (l:List Nat),sub c (x::l)=sub (sub c [x]) l
 |.seq a b,0,l=>by simp[sub]
 |.seq a b,_+1,l=>by simp[sub]
 |.cond _ a b,0,l=>by simp[sub]
 |.cond _ a b,_+1,l=>by simp[sub]
 |.rangeFunc _ _ a b,0,l=>by simp[sub]
 |.rangeFunc _ _ a b,_+1,l=>by simp[sub]
 |.block _ b,x,l=>by simp[sub]
 |.loop b,x,l=>by simp[sub]
 |.scope b,x,l=>by simp[sub]
 |.skip,x,l=>by cases l<;>simp[sub]
 |.region _ _ _,x,l=>by cases l<;>simp[sub]
 |.exit _,x,l=>by cases l<;>simp[sub]
 |.ret,x,l=>by cases l<;>simp[sub]
 |.label _,x,l=>by cases l<;>simp[sub]
 |.goto _,x,l=>by cases l<;>simp[sub]
 |.refuse _,x,l=>by cases l<;>simp[sub]
theorem h_(c:Code):∀(p l:List Nat),sub c (p++l)=sub (sub c p) l
 |[],l=>by simp[sub]
 |x::p,l=>by rw[List.cons_append,HH,h_ (sub c [x]) p l,<-HH]
def rN:Code->Bool
 |.seq _ _=>true
 |_=>false
def tE(id:Nat):Code->Bool
 |.block i _=>Nat.beq i id
 |_=>false
def wb:Code->Bool
 |.loop _=>true
 |_=>false
theorem y4{c:Code}(h:rN c=true):c=.seq (sub c [0]) (sub c [1]):=by
 cases c<;>simp[rN,sub] at h⊢
theorem y5{c:Code}{id:Nat}(h:tE id c=true):c=.block id (sub c [0]):=by
 cases c<;>simp only[tE] at h<;>(try (cases h;done))
 obtain rfl:=Nat.eq_of_beq_eq_true h
 simp[sub]
theorem HI{c:Code}(h:wb c=true):c=.loop (sub c [0]):=by
 cases c<;>simp[wb,sub] at h⊢
section
variable {P:Program} {rd:Option Nat} {call:bt} {fn:Func}
theorem dT.seq{need:Nat}{a b:Code}{st st1 mP:au}{e:bk}(aa:dT P need rd call a st .nrm st1)(ad:dT P need rd call b st1 e mP):dT P need rd call (.seq a b) st e mP:=by
 intro r ai
 obtain⟨r1,ax,aR⟩:=aa r ai
 obtain⟨r2,av,bD⟩:=ad r1 aR
 exact⟨r2,by simp only[c2,ax,om,av],bD⟩
theorem dT.qa{need:Nat}{a b:Code}{st st1:au}{e:bk}(aa:dT P need rd call a st e st1)(he:e≠ .nrm):dT P need rd call (.seq a b) st e st1:=by
 intro r ai
 obtain⟨r1,ax,aR⟩:=aa r ai
 exact⟨r1,by simp only[c2,ax];exact rp he,aR⟩
theorem dT.block{need:Nat}{id:Nat}{b:Code}{st st1:au}(aa:dT P need rd call b st (.exit id) st1):dT P need rd call (.block id b) st .nrm st1:=by
 intro r ai
 obtain⟨r1,ax,aR⟩:=aa r ai
 exact⟨r1,by simp only[c2,ax,if_true],aR⟩
theorem dT.CE{need:Nat}{id:Nat}{b:Code}{st st1:au}{e:bk}(aa:dT P need rd call b st e st1)(he:e≠ .exit id):dT P need rd call (.block id b) st e st1:=by
 intro r ai
 obtain⟨r1,ax,aR⟩:=aa r ai
 refine⟨r1,?_,aR⟩
 simp only[c2,ax]
 cases e<;>first|rfl|(rename_i i;exact if_neg λh=>he (by rw[h]))
theorem bS.seq{p:List Nat}{st st1 mP:au}{e:bk}(hs:rN (sub (en fn) p)=true)(aa:bS P fn rd call (p++[0]) st .nrm st1)(ad:bS P fn rd call (p++[1]) st1 e mP):bS P fn rd call p st e mP:=by
 unfold bS at*
 rw[y4 hs]
 rw[h_] at aa ad
 exact aa.seq ad
theorem bS.qa{p:List Nat}{st st1:au}{e:bk}(hs:rN (sub (en fn) p)=true)(aa:bS P fn rd call (p++[0]) st e st1)(he:e≠ .nrm):bS P fn rd call p st e st1:=by
 unfold bS at*
 rw[y4 hs]
 rw[h_] at aa
 exact aa.qa he
theorem bS.block{p:List Nat}{id:Nat}{st st1:au}(hs:tE id (sub (en fn) p)=true)(aa:bS P fn rd call (p++[0]) st (.exit id) st1):bS P fn rd call p st .nrm st1:=by
 unfold bS at*
 rw[y5 hs]
 rw[h_] at aa
 exact aa.block
theorem bS.CE{p:List Nat}{id:Nat}{st st1:au}{e:bk}(hs:tE id (sub (en fn) p)=true)(aa:bS P fn rd call (p++[0]) st e st1)(he:e≠ .exit id):bS P fn rd call p st e st1:=by
 unfold bS at*
 rw[y5 hs]
 rw[h_] at aa
 exact aa.CE he
def iJ(P:Program)(fn:Func)(rd:Option Nat)(call:bt)(p:List Nat)(n:Nat)(st:au)(e:bk)(bG:au):Prop:=mV P (c8 fn) rd call (sub (en fn) (p++[0])) n st e bG
theorem iJ.step{p:List Nat}{n:Nat}{st st1 bG:au}{e:bk}(h:bS P fn rd call (p++[0]) st .nrm st1)(ad:iJ P fn rd call p n st1 e bG):iJ P fn rd call p (n+1) st e bG:=mV.step h ad
theorem iJ.exit{p:List Nat}{n:Nat}{st bG:au}{e:bk}(h:bS P fn rd call (p++[0]) st e bG)(he:e≠ .nrm):iJ P fn rd call p (n+1) st e bG:=mV.exit h he
theorem iJ.run{p:List Nat}{n:Nat}{st bG:au}{e:bk}(hs:wb (sub (en fn) p)=true)(h:iJ P fn rd call p n st e bG)(aH:n<=100000):bS P fn rd call p st e bG:=by
 unfold bS
 rw[HI hs]
 unfold iJ at h
 rw[h_] at h
 exact mV.run h aH
theorem fH{intr:Nat->List I->ab->Option (I×ab)}{f:Nat}{n:Nat}{args:List I}{h:ab}(hf:P.funcs[f]? =some fn)(ae:fn.body.isSome=true)(ag:intr f args h=none)(hle:Nat.ble args.length fn.ntmps=true)
  {e:bk}{Γ:Env}{q:bu}{ao:ab}(dW:bS P fn none (et P intr n) [] ⟨l9 0 args,[],.none,h⟩ e ⟨Γ,[],q,ao⟩)(he:e=.ret\/e=.nrm){v:I}(hT:p_ P (c8 fn) fn Γ ao=some v):
  et P intr (n+1) (.fn f) args h=.ret v ao:=by
 obtain⟨c,af⟩:=Option.isSome_iff_exists.1 ae
 have oT:en fn=c:=by simp[en,af]
 unfold bS at dW
 rw[oT] at dW
 simp only[sub] at dW
 exact PY hf af rfl ag hle dW he hT
theorem P1{intr:Nat->List I->ab->Option (I×ab)}{f:Nat}{n:Nat}{args:List I}{h:ab}(hf:P.funcs[f]? =some fn)(ae:fn.body.isSome=true)(ag:intr f args h=none)(hle:Nat.ble args.length fn.ntmps=true)
  {v:I}{Γ:Env}{q:bu}{ao:ab}(dW:bS P fn none (et P intr n) [] ⟨l9 0 args,[],.none,h⟩ (.bK v) ⟨Γ,[],q,ao⟩):et P intr (n+1) (.fn f) args h=.bK v ao:=by
 obtain⟨c,af⟩:=Option.isSome_iff_exists.1 ae
 have oT:en fn=c:=by simp[en,af]
 unfold bS at dW
 rw[oT] at dW
 simp only[sub] at dW
 exact PZ hf af rfl ag hle dW
theorem CF{i m:Nat}(ag:i<m)(hm:m<=1000000000000):arith BinOp.add IntKind.i64 (Int.ofNat i) (Int.ofNat 1)=some (I.int IntKind.i64 (Int.ofNat (i+1))):=by
 have h:=oz (i+1) (by omega)
 have e:Int.ofNat i+Int.ofNat 1=((i+1:Nat):Int):=rfl
 simp only[arith,e,h];rfl
theorem oU{a b:Nat}(h:a<b):fx (Int.ofNat a) (Int.ofNat b)=true:=by simp[fx];omega
theorem tF{a b:Nat}(h:¬a<b):fx (Int.ofNat a) (Int.ofNat b)=false:=by simp[fx];omega
theorem P2{s:List UInt8}{i:Nat}(h:i<s.length):ln i s=some (.int .u8 (Int.ofNat (s[i]).toNat)):=by
 unfold ln
 rw[ow,List.getElem?_eq_getElem h]
end
structure Ext(B:Nat)(h ao:ab):Prop where
 n:h.n<=ao.n
 get:∀b,b<B->ao.get b=h.get b
theorem Ext.refl(B:Nat)(h:ab):Ext B h h:=⟨Nat.le_refl _,λ_ _=>rfl⟩
theorem Ext.trans{B mW:Nat}{h aa ad:ab}(c3:B<=mW)(e:Ext B h aa)(cn:Ext mW aa ad):Ext B h ad:=⟨Nat.le_trans e.n cn.n,λb ae=>(cn.get b (Nat.lt_of_lt_of_le ae c3)).trans (e.get b ae)⟩
theorem Ext.push{B:Nat}{h:ab}(c3:B<=h.n)(o:cX):Ext B h (h.push o):=⟨by simp,λb ae=>by rw[ab.fA,if_neg (by omega)]⟩
theorem Ext.set{B:Nat}{h:ab}{b:Nat}(ae:B<=b)(o:Option cX):Ext B h (h.set b o):=⟨by simp,λc af=>by rw[ab.cD,if_neg (by omega)]⟩
theorem Ext.room(B:Nat)(h:ab)(k:Nat):Ext B h (h.room k):=⟨by simp,λ_ _=>rfl⟩
theorem y6:∀(l m:List I),takeN l.length (l++m)=some l
 |[],m=>rfl
 |a::l,m=>by simp[takeN,y6 l m]
theorem y7{h:ab}{b e aY ag:Nat}{k:hz}{xs rest:List I}(aj:h.get b=some (.cells (xs++rest) e k aY ag)):loadCells h b 0 xs.length=some xs:=by
 simp[loadCells,aj,ih,y6]
section
variable {P:Program}
theorem tG{h:ab}{e bytes size need:Nat}{z:I}{cs:List I}{fz:Nat}(aa:jA need bytes=true)(ad:Nat.beq z.cells.length size=true)(aq:cs.all I.cw=true):ji h e bytes size need z cs fz=some (.slice h.n 0 need (.aS size),h.push (.cells cs e .aS 0 fz)):=by
 unfold ji
 rw[aa,ad,aq];rfl
theorem HJ{h:ab}{t:TypeId}{s:List UInt8}{ag:Nat}{dA:IntKind}(hu:P.underlying t=some .string)(ad:ag<=s.length):
  ec P h t (.str s) none (some (.int dA (Int.ofNat ag))) none=some (.str (s.take ag)):=by
 have bn:Nat.ble s.length s.length=true:=by simp
 have cJ:Nat.ble ag s.length=true:=by simpa using ad
 have dr:Nat.ble 0 ag=true:=by simp
 simp only[ec,hu,bounds,g3,eb,bn,cJ,dr,lR,List.drop_zero,Nat.sub_zero]
theorem P3{h:ab}{t:TypeId}{s:List UInt8}{aY:Nat}{k:IntKind}(hu:P.underlying t=some .string)(ad:aY<=s.length):
  ec P h t (.str s) (some (.int k (Int.ofNat aY))) none none=some (.str (s.drop aY)):=by
 have bn:Nat.ble s.length s.length=true:=by simp
 have cJ:Nat.ble aY s.length=true:=by simpa using ad
 simp only[ec,hu,bounds,g3,eb,bn,cJ,lR]
 rw[List.take_of_length_le (by simp)]
theorem HK{x y:List UInt8}(h:x.length+y.length<=1000000000000):qP .add x y=some (.str (x++y)):=by
 have:¬(((x.length+y.length:Nat):Int)>IntKind.i64.max):=by
  have e:IntKind.i64.max=9223372036854775807:=rfl
  rw[e];omega
 simp only[qP,if_neg this]
end
variable {P:Program} {call:bt}
def P4(l:Nat)(e:bk)(need:Nat)(r:aN)(ps:List Nat)(as bV:Code)(dM:Nat)(h:ab):a7:=match e with
 |.nrm=>.ret (.bool true) (h.set l (some (.loop .ready none need r ps as bV dM)))
 |.ret=>.ret (.bool false) (h.set l (some (.loop .done (some .ret) need r ps as bV dM)))
 |.exit id=>.ret (.bool false) (h.set l (some (.loop .done (some (.exit id)) need r ps as bV dM)))
 |.bK v=>.bK v h
 |.goto _=>.fail "goto in a round"
theorem HL{l need t dM:Nat}{Γ fG hW:Env}{as bV:Code}{v:I}{h ad:ab}{q ba:bu}{e:bk}{r:aN}
  (aj:h.get l=some (.loop .ready none need r [t] as bV dM))(hm:Mod r Γ)
  (aw:dT P need (some l) call as ⟨put t v Γ,[],.none,h⟩ .nrm ⟨fG,[],q,h⟩)
  (ae:dT P need (some l) call bV ⟨fG,[],.none,h.set l (some (.loop .busy none need r [t] as bV dM))⟩ e ⟨hW,[],ba,ad⟩)
  (an:ad.get l=some (.loop .busy none need r [t] as bV dM)):
  qV P call l [v] h=P4 l e need r [t] as bV dM ad:=by
 obtain⟨r1,ax,aR⟩:=aw _ (hm.put t v)
 obtain⟨r2,av,bD⟩:=ae _ aR
 simp only at ax av
 simp only[qV,aj,sV,ax,AS,av]
 simp only[u4,an]
 cases e<;>rfl
theorem l_{h:ab}{b t:Nat}{x:I}(aj:h.get b=some (.cells [x] t .own 0 0)):aB h b 0=some x:=by
 simp only[aB,aj];rfl
theorem y8{h:ab}{b t:Nat}{x y:I}(aO:y.cw=true)(aj:h.get b=some (.cells [x] t .own 0 0)):a8.storeCells h b 0 [y]=some (h.set b (some (.cells [y] t .own 0 0))):=by
 have hw:jz .own 0 0 0 [y].length=true:=rfl
 simp only[a8.storeCells,aj,hw,ff,aO]
end a8
namespace a8
open Go
def W(P:Program)(need:Nat)(rd:Option Nat)(call:bt)(c:Code)(Q:bk->aN->List bz->bu->ab->Prop)(r:aN)(d:List bz)(q:bu)(h:ab):Prop:=
 ∃e r' aW a0 ao,c2 P need rd call c r d q h=.ok e r' aW a0 ao/\Q e r' aW a0 ao
section
variable {P:Program} {need:Nat} {rd:Option Nat} {call:bt} {fn:Func}
theorem W.of{c:Code}{Q:bk->aN->List bz->bu->ab->Prop}{r:aN}{st bG:au}{e:bk}(ai:dT P need rd call c st e bG)(hm:Mod r st.Γ)(k:∀r',Mod r' bG.Γ->Q e r' bG.d bG.q bG.h):W P need rd call c Q r st.d st.q st.h:=by
 obtain⟨r',aa,ad⟩:=ai r hm
 exact⟨e,r',_,_,_,aa,k r' ad⟩
theorem W.seq{a b:Code}{Q:bk->aN->List bz->bu->ab->Prop}{r:aN}{d:List bz}{q:bu}{h:ab}
  (hw:W P need rd call a (λe r d q h=>(e=.nrm/\W P need rd call b Q r d q h)\/(e≠ .nrm/\Q e r d q h)) r d q h):W P need rd call (.seq a b) Q r d q h:=by
 obtain⟨e,r1,d1,aV,aa,ad,aq⟩:=hw
 rcases aq with⟨rfl,av,r2,d2,ba,aC,bC,dd⟩|⟨cF,aE⟩
 · exact⟨av,r2,d2,ba,aC,by simp only[c2,ad,om,bC],dd⟩
 · exact⟨e,r1,d1,aV,aa,by simp only[c2,ad];exact rp cF,aE⟩
theorem W.block{id:Nat}{b:Code}{Q:bk->aN->List bz->bu->ab->Prop}{r:aN}{d:List bz}{q:bu}{h:ab}
  (hw:W P need rd call b (λe r d q h=>(e=.exit id/\Q .nrm r d q h)\/(e≠ .exit id/\Q e r d q h)) r d q h):W P need rd call (.block id b) Q r d q h:=by
 obtain⟨e,r1,d1,aV,aa,ad,aq⟩:=hw
 rcases aq with⟨rfl,aE⟩|⟨cF,aE⟩
 · exact⟨.nrm,r1,d1,aV,aa,by simp only[c2,ad,if_true],aE⟩
 · refine⟨e,r1,d1,aV,aa,?_,aE⟩
   simp only[c2,ad]
   cases e<;>first|rfl|(rename_i i;exact if_neg λh=>cF (by rw[h]))
abbrev WF(P:Program)(fn:Func)(rd:Option Nat)(call:bt)(path:List Nat):=W P (c8 fn) rd call (sub (en fn) path)
theorem WF.seq{p:List Nat}{Q:bk->aN->List bz->bu->ab->Prop}{r:aN}{d:List bz}{q:bu}{h:ab}(hs:rN (sub (en fn) p)=true)
  (hw:WF P fn rd call (p++[0]) (λe r d q h=>(e=.nrm/\WF P fn rd call (p++[1]) Q r d q h)\/(e≠ .nrm/\Q e r d q h)) r d q h):WF P fn rd call p Q r d q h:=by
 unfold WF at*
 rw[y4 hs]
 rw[h_,h_] at hw
 exact hw.seq
theorem WF.block{p:List Nat}{id:Nat}{Q:bk->aN->List bz->bu->ab->Prop}{r:aN}{d:List bz}{q:bu}{h:ab}(hs:tE id (sub (en fn) p)=true)
  (hw:WF P fn rd call (p++[0]) (λe r d q h=>(e=.exit id/\Q .nrm r d q h)\/(e≠ .exit id/\Q e r d q h)) r d q h):WF P fn rd call p Q r d q h:=by
 unfold WF at*
 rw[y5 hs]
 rw[h_] at hw
 exact hw.block
def CG(f:Operand)(ps:List Nat):Code->Bool
 |.rangeFunc (.tmp g) rO _ _=>(match f with|.tmp t=>Nat.beq g t|_=>false)&&rO.toList==ps
 |_=>false
theorem P5{c:Code}{t:Nat}{ps:List Nat}(h:CG (.tmp t) ps c=true):∃rO:Array Nat,rO.toList=ps/\c=.rangeFunc (.tmp t) rO (sub c [0]) (sub c [1]):=by
 unfold CG at h
 split at h
 · rename_i g rO a b
   simp only[Bool.and_eq_true] at h
   obtain⟨aa,ad⟩:=h
   obtain rfl:=Nat.eq_of_beq_eq_true aa
   exact⟨rO,eq_of_beq ad,by simp[sub]⟩
 · cases h
theorem W.range{f:Operand}{ps:Array Nat}{as bV:Code}{Γ:Env}{Q:bk->aN->List bz->bu->ab->Prop}{r:aN}{d:List bz}{q:bu}{h:ab}{g:Nat}{aG:List I}
  (hf:l7 0 [] Γ (cl P need [] f)=some (.fn g [] aG))(hm:Mod r Γ)
  (af:∃e ao,lO (h.n+1) r (.collected h.n::d) q (call (.fn g) (.cS (h.n+1)::aG) ((h.push (.defrd (some []))).push (.loop .ready none need r ps.toList as bV h.n)))=.ok e r (.collected h.n::d) q ao/\Q e r (.collected h.n::d) q ao):
  W P need none call (.rangeFunc f ps as bV) Q r d q h:=by
 obtain⟨e,ao,aT,bp⟩:=af
 refine⟨e,r,_,q,ao,?_,bp⟩
 have aj:=rK hm hf
 rw[<-aT]
 simp only[c2,u2,aj,qT,mw]
 rfl
theorem WF.range{p:List Nat}{t:Nat}{ps:List Nat}{Γ:Env}{Q:bk->aN->List bz->bu->ab->Prop}{r:aN}{d:List bz}{q:bu}{h:ab}{g:Nat}{aG:List I}(hs:CG (.tmp t) ps (sub (en fn) p)=true)
  (aH:Nat.testBit (c8 fn) t=true)(hf:dp t Γ=some (.fn g [] aG))(hm:Mod r Γ)
  (af:∃e ao,lO (h.n+1) r (.collected h.n::d) q (call (.fn g) (.cS (h.n+1)::aG) ((h.push (.defrd (some []))).push (.loop .ready none (c8 fn) r ps (sub (en fn) (p++[0])) (sub (en fn) (p++[1])) h.n)))=.ok e r (.collected h.n::d) q ao/\Q e r (.collected h.n::d) q ao):
  WF P fn none call p Q r d q h:=by
 obtain⟨rO,aE,he⟩:=P5 hs
 unfold WF
 rw[h_,h_] at af
 rw[he]
 subst aE
 refine W.range (Γ:=Γ) ?_ hm af
 have:cl P (c8 fn) [] (.tmp t)=.j1 (fV t):=by
  unfold cl
  simp only[g4,aH]
 rw[this]
 show dp (fV t).num Γ=_
 rw[xN];exact hf
theorem P6{intr:Nat->List I->ab->Option (I×ab)}{f:Nat}{n:Nat}{args:List I}{h:ab}{X:a7}(hf:P.funcs[f]? =some fn)(ae:fn.body.isSome=true)(ag:intr f args h=none)(hle:Nat.ble args.length fn.ntmps=true)
  (hw:WF P fn none (et P intr n) [] (λe r d q ao=>nz P (et P intr n) fn (.ok e r d q ao)=X) (lP 0 args .leaf) [] .none h):et P intr (n+1) (.fn f) args h=X:=by
 obtain⟨c,af⟩:=Option.isSome_iff_exists.1 ae
 have oT:en fn=c:=by simp[en,af]
 obtain⟨e,r,d,q,ao,aa,ad⟩:=hw
 rw[oT] at aa
 simp only[sub] at aa
 simp only[et,ag,oq,hf,af,k5,hle,aa,ad]
end
theorem qb:∀l:List UInt8,(cI l).length=l.length
 |[]=>rfl
 |a::l=>by simp[cI,qb l]
theorem y9:∀l m:List UInt8,cI (l++m)=cI l++cI m
 |[],m=>rfl
 |a::l,m=>by simp[cI,y9 l m]
theorem y_:∀l:List UInt8,(cI l).all I.cw=true
 |[]=>rfl
 |a::l=>by rw[cI,List.all_cons,y_ l];rfl
theorem za:∀l:List UInt8,lM (cI l)=some l
 |[]=>rfl
 |a::l=>by
  have aa:Nat.blt a.toNat 256=true:=by have:=UInt8.toNat_lt a;simp[Nat.blt];omega
  simp only[cI,lM,za l,aa,UInt8.ofNat_toNat]
theorem CH:∀(xs ys:List I),xs.all I.cw=true->xs.length<=ys.length->ff 0 xs ys=some (xs++ys.drop xs.length)
 |[],ys,_,_=>by cases ys<;>simp[ff]
 |x::xs,[],_,h=>by simp at h
 |x::xs,y::ys,J,h=>by
  simp only[List.all_cons,Bool.and_eq_true] at J
  have a3:=CH xs ys J.2 (by simpa using h)
  simp[ff,J.1,a3]
theorem wc:∀(l xs ys:List I),xs.all I.cw=true->xs.length<=ys.length->ff l.length xs (l++ys)=some (l++(xs++ys.drop xs.length))
 |[],xs,ys,J,h=>by simpa using CH xs ys J h
 |a::l,[],ys,J,h=>by simp[ff]
 |a::l,x::xs,ys,J,h=>by
  have a3:=wc l (x::xs) ys J h
  simp only[List.length_cons,List.cons_append,ff] at a3⊢
  rw[a3]
theorem P7{i j:Nat}(h:i+j<9223372036854775808):arith BinOp.add IntKind.i64 (Int.ofNat i) (Int.ofNat j)=some (I.int IntKind.i64 (Int.ofNat (i+j))):=by
 have h:=oz (i+j) h
 have e:Int.ofNat i+Int.ofNat j=((i+j:Nat):Int):=rfl
 simp only[arith,e,h];rfl
theorem CI{i j:Nat}(aF:j<=i)(h:i<9223372036854775808):arith BinOp.sub IntKind.i64 (Int.ofNat i) (Int.ofNat j)=some (I.int IntKind.i64 (Int.ofNat (i-j))):=by
 have h:=oz (i-j) (by omega)
 have e:Int.ofNat i-Int.ofNat j=((i-j:Nat):Int):=by
  have ax:Int.ofNat i=(i:Int):=rfl
  have av:Int.ofNat j=(j:Int):=rfl
  rw[ax,av];omega
 simp only[arith,e,h];rfl
theorem P8{i j:Nat}(h:i*j<9223372036854775808):arith BinOp.mul IntKind.i64 (Int.ofNat i) (Int.ofNat j)=some (I.int IntKind.i64 (Int.ofNat (i*j))):=by
 have h:=oz (i*j) h
 have e:Int.ofNat i*Int.ofNat j=((i*j:Nat):Int):=rfl
 simp only[arith,e,h];rfl
theorem zb{a b:Nat}(h:a<=b):gN (Int.ofNat a) (Int.ofNat b)=true:=by simp[gN];omega
theorem HM{a b:Nat}(h:¬a<=b):gN (Int.ofNat a) (Int.ofNat b)=false:=by simp[gN];omega
def nS(B e:Nat)(h:ab)(v:I)(w:List UInt8):Prop:=
 (v=.bd/\w=[])\/∃c rest,v=.slice c 0 w.length (.aS 1)/\h.get c=some (.cells (cI w++rest) e .aS 0 0)/\B<=c/\c<h.n
theorem nS.ext{B e:Nat}{h ao:ab}{v:I}{w:List UInt8}(ae:nS B e h v w)(aH:h.n<=ao.n)(aj:∀c,B<=c->c<h.n->ao.get c=h.get c):nS B e ao v w:=by
 rcases ae with aa|⟨c,rest,aa,ad,aq,aC⟩
 · exact .inl aa
 · exact .inr ⟨c,rest,aa,(aj c aq aC).trans ad,aq,by omega⟩
section
variable {P:Program}
theorem HN{B:Nat}{h:ab}{v:I}{w s:List UInt8}{sT e:TypeId}{xT:Option TypeId}{i:TypeInfo}{z:I}(c3:B<=h.n)(hu:P.underlying sT=some (.slice e))(fb:ni P xT=true)(ag:P.info? e=some i)(bh:i.size=1)(aP:dt P e=some z)(hi:z.cells.length=1)
  (nH:jA (w.length+s.length) i.bytes=true)(ai:nS B e h v w):
  ∃v' ao,eh P h sT xT v (.str s)=some (v',ao)/\nS B e ao v' (w++s)/\Ext B h ao:=by
 have gE:fF h 1 (.str s)=some (s.length,cI s):=rfl
 have HO:Nat.beq z.cells.length 1=true:=by rw[hi];rfl
 rcases ai with⟨rfl,rfl⟩|⟨c,rest,rfl,aj,tH,nP⟩
 · cases s with
   |nil=>exact⟨.bd,h,by simp only[eh,hu,fb,ag,aP,bh];rfl,.inl ⟨rfl,rfl⟩,Ext.refl _ _⟩
   |cons a s=>
    have P9:jA (a::s).length i.bytes=true:=by simpa using nH
    have dP:=tG (h:=h) (e:=e) (fz:=0) P9 HO (y_ (a::s))
    refine⟨.slice h.n 0 (a::s).length (.aS 1),h.push (.cells (cI (a::s)) e .aS 0 0),?_,.inr ⟨h.n,[],by simp,by rw[ab.fA,if_pos rfl];simp,c3,by simp⟩,Ext.push c3 _⟩
    rw[<-dP]
    simp only[eh,hu,fb,ag,aP,bh,gE]
    rfl
 · cases s with
   |nil=>exact⟨.slice c 0 w.length (.aS 1),h,by simp only[eh,hu,fb,ag,aP,bh];rfl,.inr ⟨c,rest,by simp,by simpa using aj,tH,nP⟩,Ext.refl _ _⟩
   |cons a s=>
    have HP:(Nat.beq 1 1&&Nat.blt 0 1)=true:=rfl
    by_cases pO:(a::s).length<=rest.length
    · have mX:Nat.ble (0+(w.length+(a::s).length)*1) (cI w++rest).length=true:=by
        simp only[Nat.ble_eq,List.length_append,qb];omega
      have aL:=wc (cI w) (cI (a::s)) rest (y_ _) (by rw[qb];exact pO)
      have hw:jz .aS 0 0 (0+w.length*1) (cI (a::s)).length=true:=by unfold jz;simp
      have vJ:ff (0+w.length*1) (cI (a::s)) (cI w++rest)=some (cI w++(cI (a::s)++rest.drop (cI (a::s)).length)):=by
       rw[<-aL,qb];simp
      refine⟨.slice c 0 (w.length+(a::s).length) (.aS 1),h.set c (some (.cells (cI w++(cI (a::s)++rest.drop (cI (a::s)).length)) e .aS 0 0)),?_,.inr ⟨c,rest.drop (cI (a::s)).length,by simp,by rw[ab.cD,if_pos rfl,y9];simp,tH,by simpa using nP⟩,Ext.set tH _⟩
      simp only[eh,hu,fb,ag,aP,bh,gE]
      simp only[HP,List.length_cons,aj]
      simp only[List.length_cons] at mX vJ hw
      simp only[mX,a8.storeCells,aj,hw,vJ]
    · have mX:Nat.ble (0+(w.length+(a::s).length)*1) (cI w++rest).length=false:=by
        cases ae:Nat.ble (0+(w.length+(a::s).length)*1) (cI w++rest).length with
        |false=>rfl
        |true=>simp only[Nat.ble_eq,List.length_append,qb] at ae;omega
      have ar:loadCells h c 0 (w.length*1)=some (cI w):=by
       have:=y7 (xs:=cI w) aj
       rw[qb] at this;simpa using this
      have dx:(cI w++cI (a::s)).all I.cw=true:=by rw[<-y9];exact y_ _
      have we:(Nat.ble 0 (0+w.length*1)&&Nat.beq e e)=true:=by simp
      have dP:=tG (h:=h.set c none) (e:=e) (fz:=0-0) nH HO dx
      refine⟨.slice (h.set c none).n 0 (w.length+(a::s).length) (.aS 1),(h.set c none).push (.cells (cI w++cI (a::s)) e .aS 0 0),?_,.inr ⟨(h.set c none).n,[],by simp,by rw[ab.fA,if_pos rfl,y9];simp,by simp;omega,by simp⟩,
       (Ext.set tH none).trans (Nat.le_refl _) (Ext.push (by simp;omega) _)⟩
      simp only[List.length_cons] at mX dP
      simp only[eh,hu,fb,ag,aP,bh,gE]
      simp only[HP,List.length_cons,aj]
      simp only[mX,ar,we,dP]
theorem HQ{h:ab}{pT u:TypeId}{c e:Nat}{w:List UInt8}{rest:List I}(hw:w≠[])(ar:w.length<=100000000000)(hu:P.underlying pT=some (.pointer u))(he:P.underlyingId e=P.underlyingId u)(hs:cY P e=some 1)(aj:h.get c=some (.cells (cI w++rest) e .aS 0 0)):
  nk P h pT (.ptr c 0) (.int .i64 (Int.ofNat w.length))=some (.str w,h.set c (some (.cells (cI w++rest) e .fz 0 0))):=by
 have aH:w.length≠0:=by cases w<;>simp at hw⊢
 have bm:takeN w.length (ih 0 (cI w++rest))=some (cI w):=by
  have:=y6 (cI w) rest
  rw[qb] at this;exact this
 have hle:Nat.ble w.length 281474976710656=true:=by simp;omega
 simp only[nk,eb,if_neg aH,hu,aj,he,hs,hle,bm,za]
 simp
end
section
variable {D:Type}
variable {enc:D->List I} {w:Nat}
theorem HR:∀(l m:List I) (n:Nat),l.length=n->takeN n (l++m)=some l
 |l,m,n,h=>by subst h;exact y6 l m
end
theorem HS(n:Nat)(h:n<18446744073709551616):IntKind.wrap .u64 (n:Int)=(n:Int):=by
 have e:((n:Int) %18446744073709551616)=n:=by omega
 have av:(2:Int)^64=18446744073709551616:=by rfl
 simp only[IntKind.wrap,IntKind.bits,IntKind.signed,av,e,Bool.false_and,if_neg Bool.false_ne_true]
theorem wrap_u8(n:Nat):IntKind.wrap .u8 (n:Int)=((n %256:Nat):Int):=by
 have av:(2:Int)^8=256:=by rfl
 simp only[IntKind.wrap,IntKind.bits,IntKind.signed,av,Bool.false_and,if_neg Bool.false_ne_true]
 omega
theorem P_{i j:Nat}(h:i+j<18446744073709551616):arith BinOp.add IntKind.u64 (Int.ofNat i) (Int.ofNat j)=some (I.int IntKind.u64 (Int.ofNat (i+j))):=by
 have h:=HS (i+j) h
 have e:Int.ofNat i+Int.ofNat j=((i+j:Nat):Int):=rfl
 simp only[arith,e,h];rfl
theorem Qa{i j:Nat}(aF:j<=i)(h:i<18446744073709551616):arith BinOp.sub IntKind.u64 (Int.ofNat i) (Int.ofNat j)=some (I.int IntKind.u64 (Int.ofNat (i-j))):=by
 have h:=HS (i-j) (by omega)
 have e:Int.ofNat i-Int.ofNat j=((i-j:Nat):Int):=by
  have ax:Int.ofNat i=(i:Int):=rfl
  have av:Int.ofNat j=(j:Int):=rfl
  rw[ax,av];omega
 simp only[arith,e,h];rfl
theorem zc(k:IntKind){i j:Nat}(aF:0<j):arith BinOp.rem k (Int.ofNat i) (Int.ofNat j)=some (I.int k (Int.ofNat (i %j))):=by
 have e:(Int.ofNat i).tmod (Int.ofNat j)=((i %j:Nat):Int):=rfl
 have cF:¬(Int.ofNat j=0):=by
  have ax:Int.ofNat j=(j:Int):=rfl
  rw[ax];omega
 simp only[arith,if_neg cF,e];rfl
section
variable {P:Program}
theorem CJ{a b:TypeId}{ka k dA:IntKind}{n:Int}{h:ab}(aw:P.underlying a=some (.int ka))(ae:P.underlying b=some (.int dA)){m:Int}(hm:dA.wrap n=m):e8 P a b (.int k n) h=.val (.int dA m) h:=by
 simp only[e8,aw,ae,hm]
theorem Qb{a b e:TypeId}{h:ab}{c:Nat}{cap:c7}{w:List UInt8}{rest:List I}{el aY up:Nat}{k:hz}(aw:P.underlying a=some (.slice e))(he:P.underlying e=some (.int .u8))(ae:P.underlying b=some .string)(hj:cap=.exact w.length\/cap=.aS 1)
  (aj:h.get c=some (.cells (cI w++rest) el k aY up)):e8 P a b (.slice c 0 w.length cap) h=.val (.str w) h:=by
 have ar:loadCells h c 0 w.length=some (cI w):=by
  have:=y7 (xs:=cI w) aj
  rwa [qb] at this
 rcases hj with rfl|rfl<;>simp only[e8,aw,he,ae,ar,za]
end
theorem qc{a b:Nat}(h:a=b):cW (Int.ofNat a) (Int.ofNat b)=true:=by subst h;simp[cW]
theorem oV{a b:Nat}(h:¬a=b):cW (Int.ofNat a) (Int.ofNat b)=false:=by
 cases J:cW (Int.ofNat a) (Int.ofNat b) with
 |false=>rfl
 |true=>simp[cW] at J;omega
theorem zd(m l:Nat):jz .aS 0 0 m l=true:=by unfold jz;simp
structure jP(p B:Nat)(h ao:ab):Prop where
 n:h.n<=ao.n
 get:∀b,b<B->b≠p->ao.get b=h.get b
theorem Ext.Qc{B:Nat}{h ao:ab}(e:Ext B h ao)(p:Nat):jP p B h ao:=⟨e.n,λb ae _=>e.get b ae⟩
theorem jP.refl(p B:Nat)(h:ab):jP p B h h:=⟨Nat.le_refl _,λ_ _ _=>rfl⟩
theorem jP.trans{p B mW:Nat}{h aa ad:ab}(c3:B<=mW)(e:jP p B h aa)(cn:jP p mW aa ad):jP p B h ad:=⟨Nat.le_trans e.n cn.n,λb ae aL=>(cn.get b (Nat.lt_of_lt_of_le ae c3) aL).trans (e.get b ae aL)⟩
theorem jP.Yj{p B:Nat}{h ao:ab}(e:jP p B h ao)(aL:B<=p):Ext B h ao:=⟨e.n,λb ae=>e.get b ae (by omega)⟩
theorem Ext.le{B mW:Nat}{h ao:ab}(e:Ext mW h ao)(c3:B<=mW):Ext B h ao:=⟨e.n,λb ae=>e.get b (by omega)⟩
theorem fI{h:ab}{o:cX}{b:Nat}(ae:b=h.n):(h.push o).get b=some o:=by subst ae;rw[ab.fA,if_pos rfl]
theorem lp{h:ab}{o:cX}{b:Nat}{x:Option cX}(ae:b<h.n)(J:h.get b=x):(h.push o).get b=x:=by rw[ab.fA,if_neg (by omega)];exact J
theorem ft{h:ab}{o:cX}{b c:Nat}(ae:b=c):(h.set c (some o)).get b=some o:=by subst ae;rw[ab.cD,if_pos rfl]
theorem c5{h:ab}{b c:Nat}{o x:Option cX}(ae:¬b=c)(J:h.get b=x):(h.set c o).get b=x:=by rw[ab.cD,if_neg ae];exact J
theorem a_{h:ab}{b off:Nat}{cs:List I}{e aY up:Nat}{k:hz}{v:I}(aj:h.get b=some (.cells cs e k aY up))(aH:nth off cs=some v):aB h b off=some v:=by simp only[aB,aj,aH]
theorem oW{h:ab}{b off m:Nat}{cs vs:List I}{e aY up:Nat}{k:hz}(aj:h.get b=some (.cells cs e k aY up))(aH:takeN m (ih off cs)=some vs):a8.loadCells h b off m=some vs:=by simp only[a8.loadCells,aj,aH]
theorem gn{h:ab}{b off:Nat}{xs cs bw:List I}{e aY up:Nat}{k:hz}(aj:h.get b=some (.cells cs e k aY up))(hw:jz k aY up off xs.length=true)(aL:ff off xs cs=some bw):a8.storeCells h b off xs=some (h.set b (some (.cells bw e k aY up))):=by simp only[a8.storeCells,aj,hw,aL]
theorem Ext.hG{B b:Nat}{h g:ab}{o:Option cX}(ae:B<=b)(e:Ext B h g):Ext B h (g.set b o):=e.trans (Nat.le_refl _) (Ext.set ae _)
theorem Ext.lq{B:Nat}{h g:ab}{o:cX}(c3:B<=g.n)(e:Ext B h g):Ext B h (g.push o):=e.trans (Nat.le_refl _) (Ext.push c3 _)
theorem Ext.ma{B k:Nat}{h g:ab}(e:Ext B h g):Ext B h (g.room k):=⟨Nat.le_trans e.n (Nat.le_add_right _ _),e.get⟩
theorem Qd(a:List UInt8):dv a a=true:=by
 induction a with
 |nil=>rfl
 |cons x l a3=>simp[dv,a3]
end a8
