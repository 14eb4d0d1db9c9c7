/-
  PROVED HERE: symbolic runs of the evaluator, and that they are sound (Sxa). No condition beside each statement's own.
-/
import Derived.Test.YtfooahfebojldaaGreatDoorAed
set_option linter.unusedVariables false
set_option linter.unusedSimpArgs false
namespace aw
open Go
abbrev Env:=List (Nat×I)
def eX(t:Nat):Env->Option I
 |[]=>none
 |(u,v)::l=>match Nat.beq t u with
  |true=>some v
  |false=>eX t l
def del(t:Nat):Env->Env
 |[]=>[]
 |(u,v)::l=>match Nat.beq t u with
  |true=>del t l
  |false=>(u,v)::del t l
def put(t:Nat)(v:I)(Γ:Env):Env:=(t,v)::del t Γ
def ll(Γ:Env):List Nat->Env
 |[]=>[]
 |t::l=>match eX t Γ with
  |some v=>(t,v)::ll Γ l
  |none=>ll Γ l
def Mod(r:aL)(Γ:Env):Prop:=∀t v,eX t Γ=some v->r.get (fV t)=v
structure ao where
 Γ:Env
 d:List bA
 q:bt
 h:J
inductive Hint where
 |v (v:I)
 |hT (v:I) (h:J)
 |c (v:I) (h:J)
 |p (v:I) (h:J)
 |b (b:Bool)
 |loop (e:bu) (st:ao)
 |OS (v:I) (o:ca)
 |o (v:I)
 |OT
def ed:List Prop->Prop
 |[]=>True
 |p::l=>p/\ed l
theorem ed.cons{p:Prop}{l:List Prop}(h:p)(t:ed l):ed (p::l):=⟨h,t⟩
theorem ed.nil:ed []:=trivial
theorem ed.append:∀{l m:List Prop},ed (l++m)->ed l/\ed m
 |[],m,h=>⟨trivial,h⟩
 |p::l,m,h=>⟨⟨h.1,(ed.append h.2).1⟩,(ed.append h.2).2⟩
def l_(m:Nat)(env:List I)(Γ:Env):Acc->Option I
 |.env j=>nth (m-1-j) env
 |.jS p=>eX p.num Γ
 |.val v=>some v
def BX(o:Oper)(g:Operand->I):Nat:=match o.op with
 |.load .. |.slice .. |.index .. |.indexAddr .. |.lookup .. |.entry .. =>1
 |.binOp op _ x y _=>match op,g x,g y with
  |.eql,.int _ _,.int _ _|.neq,.int _ _,.int _ _|.lss,.int _ _,.int _ _|.leq,.int _ _,.int _ _|.gtr,.int _ _,.int _ _|.geq,.int _ _,.int _ _=>0
  |.eql,.str _,.str _|.neq,.str _,.str _|.lss,.str _,.str _|.leq,.str _,.str _|.gtr,.str _,.str _|.geq,.str _,.str _=>0
  |_,_,_=>1
 |.unOp op _ _=>match op with
  |.not=>0
  |_=>1
 |.convert _ _ x=>match g x with
  |.str _=>2
  |_=>1
 |.range _ x=>match g x with
  |.map _=>2
  |_=>0
 |.store .. |.mapUpdate .. |.mapEntry .. |.entryStore .. |.insert .. |.next .. |.makeSlice .. =>2
 |.call c=>match c.callee with
  |.builtin b=>match b with
   |.len=>match c.args.toList.map g with
    |[.map _]=>1
    |_=>0
   |.cap|.min|.max|.unsafeSliceData=>1
   |.append|.copy|.clear|.delete|.unsafeString=>2
   |_=>0
  |_=>0
 |_=>0
def ln(n:Nat)(s:List UInt8):Option I:=match nth n s with
 |some b=>some (.int .u8 (Int.ofNat b.toNat))
 |none=>none
def mY(P:Program)(o:Oper)(g:Operand->I)(h:J)(v:I):Prop:=match o.op with
 |.load t a=>match g a,k6 P t,cV P t with
  |.ptr b off,some false,some _=>ay h b off=some v
  |.ptr b off,some true,some n=>match v with
   |.agg cs=>loadCells h b off n=some cs
   |_=>False
  |_,_,_=>False
 |.binOp op t x y _=>match g x,g y with
  |.int k a,.int dH b=>match op with
   |.shl=>nx .shl k a b=some v
   |.shr=>nx .shr k a b=some v
   |op=>match decide (k=dH) with
    |true=>arith op k a b=some v
    |false=>False
  |.str a,.str b=>oA op a b=some v
  |a,b=>dX P h op t x y a b=some v
 |.slice t x a9 ae mx=>eu P h t (g x) (a9.map g) (ae.map g) (mx.map g)=some v
 |.index t x i=>match P.underlying t,g x,e2 (g i) with
  |some .string,.str s,some n=>ln n s=some v
  |some (.array m e),.agg cs,some n=>match cV P e with
   |some sz=>n<m/\jR P e cs (n*sz)=some v
   |none=>False
  |_,_,_=>False
 |.indexAddr t x i=>match P.underlying t,g x,e2 (g i) with
  |some (.array m e),.ptr b off,some n=>match cV P e with
   |some sz=>n<m/\v=.ptr b (off+n*sz)
   |none=>False
  |some (.slice e),.slice b off m c,some n=>match cV P e with
   |some sz=>n<m/\v=.ptr b (off+n*sz)
   |none=>False
  |_,_,_=>False
 |.lookup t x i ok=>xE P h t (g x) (g i) ok=some v
 |.entry it=>xK h (g it)=some v
 |.unOp op _ x=>match op,g x with
  |.neg,.int k n=>v=.int k (k.wrap (0-n))
  |.xor,.int k n=>arith .xor k (if k.signed then-1 else k.max) n=some v
  |_,_=>False
 |.convert src dst x=>fp P src dst (g x) h=.val v h
 |.call c=>match c.callee,c.args.toList.map g,c.argTypes[0]? with
  |.builtin .len,[x],some t=>cb P h t x=some v
  |.builtin .cap,[x],some t=>xz P t x=some v
  |.builtin .min,x::l,_=>gP hp x l=some v
  |.builtin .max,x::l,_=>gP uX x l=some v
  |.builtin .unsafeSliceData,[x],some t=>hg P .unsafeSliceData #[t] [x] h=.val v h
  |_,_,_=>False
 |_=>False
def tK(P:Program)(h:J)(t:TypeId)(l c:I):Option (I×J):=match P.underlying t,e2 l,e2 c with
 |some (.slice e),some l,some c=>match P.info? e,dN P e with
  |some i,some z=>if l<=c&&Nat.ble (c*(i.bytes+1)) 1099511627776&&Nat.beq z.cells.length i.size then(match newRow h e (if c*i.size=0 then[] else ej c z.cells) with
   |some (b,ak)=>some (.slice b 0 l (.exact c),ak)
   |none=>none) else none
  |_,_=>none
 |_,_,_=>none
def GZ(h:J):I->Option (I×J)
 |.map m=>match h.get m with
  |some (.map _ c)=>some (.ptr h.n 0,h.push (.mapIter (some m) c [] c))
  |_=>none
 |_=>none
def tL(P:Program)(o:Oper)(g:Operand->I)(h:J)(v:I)(ak:J):Prop:=match o.op with
 |.store t a x=>match g a with
  |.ptr b off=>cV P t=some (g x).cells.length/\storeCells h b off (g x).cells=some ak/\v=.aK []
  |_=>False
 |.convert src dst x=>fp P src dst (g x) h=.val v ak
 |.mapUpdate t m k x=>te P h t (g m) (g k) (g x)=some ak/\v=.aK []
 |.insert t m k x=>te P h t (g m) (g k) (g x)=some ak/\v=.aK []
 |.mapEntry t m k=>xF P h t (g m) (g k)=some (v,ak)
 |.entryStore t m s x=>xG h (g m) (g s) (g x)=some ak/\v=.aK []
 |.next it isStr=>xI h (g it) isStr=some (v,ak)
 |.range t x=>match P.underlying t with
  |some (.map _ _)=>GZ h (g x)=some (v,ak)
  |_=>False
 |.makeSlice t l c=>tK P h t (g l) (g c)=some (v,ak)
 |.call c=>match c.callee,c.args.toList.map g,c.argTypes[0]? with
  |.builtin .append,[x,y],some t=>fW P h t c.argTypes[1]? x y=some (v,ak)
  |.builtin .copy,[x,y],some t=>xA P h t x y=some (v,ak)
  |.builtin .clear,[x],some t=>nz P h t x=some (v,ak)
  |.builtin .delete,[x,y],some t=>xH P h t x y=some (v,ak)
  |.builtin .unsafeString,[x,y],some t=>oB P h t x y=some (v,ak)
  |_,_,_=>False
 |_=>False
inductive lo where
 |ok (v:I) (d:List bA) (q:bt) (h:J)
 |bK (v:I) (d:List bA) (q:bt) (h:J)
def lo.res:lo->u4
 |.ok v d q h=>.ok v d q h
 |.bK v d q h=>.bK v d q h
inductive jF(α:Type 1) where
 |cr (a:α)
 |stop (hI:String) (x:Option Bool)
structure ga(α:Type):Type 1 where
 res:α
 cs:List Prop
 hs:List Hint
structure OU(l:List I):Prop where
 h:l.all I.bC=true
def yM(call:aP->List I->J->av)(pos:String)(f:aP)(args:List I)(d:List bA)(q:bt)(h:J):List Hint->jF (ga lo)
 |.c v ak::hs=>.cr ⟨.ok v d q ak,[call f args h=.ret v ak],hs⟩
 |.p v ak::hs=>.cr ⟨.bK v d q ak,[call f args h=.bK v ak],hs⟩
 |_=>.stop ("call " ++pos) none
def OV(P:Program)(o:Oper):Bool:=match o.op with
 |.call c=>match c.callee with
  |.builtin b=>match b with
   |.len=>true
   |_=>false
  |_=>false
 |.binOp op t _ _ _=>match op with
  |.eql|.neq=>match P.underlying t with
   |some (.int _)=>false
   |some .string=>false
   |some .bool=>false
   |some _=>true
   |none=>false
  |_=>false
 |_=>false
def OW(P:Program)(o:Oper):List Hint->Option (I×List Hint)
 |.o v::hs=>match OV P o with
  |true=>some (v,hs)
  |false=>none
 |_=>none
def G0(o:Oper):List Hint->Option (TypeId×Operand×List Hint)
 |.OT::hs=>match o.op with
  |.box e x=>some (e,x,hs)
  |_=>none
 |_=>none
def BY(P:Program)(inR:Bool)(call:aP->List I->J->av)(o:Oper)(g:Operand->I)(d:List bA)(q:bt)(h:J)(hs:List Hint):jF (ga lo):=
 match OW P o hs with
 |some (v,hs)=>.cr ⟨.ok v d q h,[mY P o g h v],hs⟩
 |none=>match G0 o hs with
  |some (e,x,hs)=>.cr ⟨.ok (.ptr h.n 0) d q (h.push (.cells (g x).cells e .own 0 0)),[OU (g x).cells],hs⟩
  |none=>match BX o g with
   |0=>match ch P o g h with
    |.val v ak=>.cr ⟨.ok v d q ak,[],hs⟩
    |.bK v ak=>.cr ⟨.bK v d q ak,[],hs⟩
    |.call f args ak=>yM call o.pos (.fn f) args d q ak hs
    |.bQ l args ak=>yM call o.pos (.bQ l) args d q ak hs
    |.iI x=>match inR with
     |true=>.stop "defer" none
     |false=>.cr ⟨.ok (.aK []) (x::d) q h,[],hs⟩
    |.q8=>match inR with
     |true=>.stop "recover" none
     |false=>match q with
      |.none=>.cr ⟨.ok .dW d .none h,[],hs⟩
      |.done v=>.cr ⟨.ok .dW d (.done v) h,[],hs⟩
      |.act v=>.cr ⟨.ok v d (.done v) h,[],hs⟩
    |.fail w=>.stop (w++ " " ++o.pos) none
   |1=>match hs with
    |.v v::hs=>.cr ⟨.ok v d q h,[mY P o g h v],hs⟩
    |_=>.stop ("value " ++o.pos) none
   |_=>match hs with
    |.hT v ak::hs=>.cr ⟨.ok v d q ak,[tL P o g h v ak],hs⟩
    |_=>.stop ("value and memory " ++o.pos) none
def BZ(o:Oper)(g:Operand->I)(d:List bA)(q:bt)(h:J)(hs:List Hint):Option (jF (ga lo)):=match o.op with
 |.pick c a b=>match g c with
  |.bool x=>match hs with
   |.b true::hs=>some (.cr ⟨.ok (g a) d q h,[x=true],hs⟩)
   |.b false::hs=>some (.cr ⟨.ok (g b) d q h,[x=false],hs⟩)
   |_=>some (.stop ("pick " ++o.pos) (some x))
  |_=>some (.stop ("pick of what " ++o.pos) none)
 |_=>none
def yN(P:Program)(inR:Bool)(call:aP->List I->J->av)(o:Oper)(g:Operand->I)(d:List bA)(q:bt)(h:J)(hs:List Hint):jF (ga lo):=match BZ o g d q h hs with
 |some r=>r
 |none=>BY P inR call o g d q h hs
def tM(P:Program)(inR:Bool)(call:aP->List I->J->av)(gd:Option (I×Bool))(o:Oper)(g:Operand->I)(d:List bA)(q:bt)(h:J)(hs:List Hint):jF (ga lo):=
 match gd with
 |none=>yN P inR call o g d q h hs
 |some (.bool x,b)=>match hs with
  |.b c::hs=>match c==b with
   |true=>match yN P inR call o g d q h hs with
    |.cr ⟨s,cs,hs⟩=>.cr ⟨s,(x=c)::cs,hs⟩
    |.stop w x=>.stop w x
   |false=>.cr ⟨.ok (.aK []) d q h,[x=c],hs⟩
  |_=>.stop ("guard " ++o.pos) (some x)
 |some (.aK [],_)=>.cr ⟨.ok (.aK []) d q h,[],hs⟩
 |_=>.stop ("guard of what " ++o.pos) none
def tN(P:Program)(need m:Nat)(env:List I)(Γ:Env)(loc:List (Nat×Acc))(o:Oper):Bool:=o.op.operands.toList.all λx=>(l_ m env Γ (cw P need loc x)).isSome
def jG(P:Program)(need m:Nat)(env:List I)(Γ:Env)(loc:List (Nat×Acc))(x:Operand):I:=(l_ m env Γ (cw P need loc x)).getD .bad
def G1(env:List I)(Γ:Env)(s:Step):Option (Option (I×Bool)):=match s.guard with
 |none=>some none
 |some (a,b)=>match l_ s.m env Γ a with
  |some v=>some (some (v,b))
  |none=>none
def yO(P:Program)(need:Nat)(inR:Bool)(call:aP->List I->J->av)(Γ:Env):List Step->List I->List bA->bt->J->List Hint->jF (ga k7)
 |[],env,d,q,h,hs=>.cr ⟨.ok env d q h,[],hs⟩
 |s::rest,env,d,q,h,hs=>
  match tN P need s.m env Γ s.loc s.o with
  |false=>.stop ("an operand " ++s.o.pos) none
  |true=>
   match G1 env Γ s with
   |none=>.stop ("guard " ++s.o.pos) none
   |some gd=>match tM P inR call gd s.o (jG P need s.m env Γ s.loc) d q h hs with
    |.cr ⟨.ok v bn q' ak,cs,c8⟩=>match yO P need inR call Γ rest (v::env) bn q' ak c8 with
     |.cr ⟨x,bH,r4⟩=>.cr ⟨x,cs++bH,r4⟩
     |.stop w x=>.stop w x
    |.cr ⟨.bK v bn q' ak,cs,c8⟩=>.cr ⟨.bK v bn q' ak,cs,c8⟩
    |.stop w x=>.stop w x
def r5(need m:Nat)(env:List I)(fv:Env):List (Nat×Acc)->Env->Env
 |[],Γ=>Γ
 |(t,a)::l,Γ=>
  match Nat.testBit need t with
  |true=>match l_ m env fv a with
   |some v=>put t v (r5 need m env fv l Γ)
   |none=>del t (r5 need m env fv l Γ)
  |false=>r5 need m env fv l Γ
def yP:List (Nat×Acc)->Env->Env
 |[],Γ=>Γ
 |(t,_)::l,Γ=>del t (yP l Γ)
def J.room(h:J)(k:Nat):J:=⟨h.t,h.n+k⟩
@[simp] theorem J.XE (h:J) (k b:Nat):(h.room k).get b=h.get b:=rfl
@[simp] theorem J.XF (h:J) (k:Nat):(h.room k).n=h.n+k:=rfl
abbrev ma:=List (Nat×Nat×J)
structure iy where
 env:List I
 d:List bA
 q:bt
 h:J
 aY:ma
def v9(P:Program)(need:Nat)(ops:Array Oper)(n:Nat)(env:List I)(Γ:Env)(s:DStep):Option (Option (I×Bool)):=match iK P need ops s.loc s.o with
 |none=>some none
 |some (a,b)=>match l_ n env Γ a with
  |some v=>some (some (v,b))
  |none=>none
def r6(s:DStep):ma->Bool
 |[]=>true
 |(e,_,_)::_=>Nat.testBit s.ek e
def G2(P:Program)(t:TypeId)(l c:I)(b:Nat):Option (I×ca):=match P.underlying t,e2 l,e2 c with
 |some (.slice e),some l,some c=>match P.info? e,dN P e with
  |some i,some z=>match decide (l<=c)&&Nat.ble (c*(i.bytes+1)) 1099511627776&&Nat.beq z.cells.length i.size,(if c*i.size=0 then[] else ej c z.cells) with
   |true,cs=>match cs.all I.bC with
    |true=>some (.slice b 0 l (.exact c),.cells cs e .own 0 0)
    |false=>none
   |_,_=>none
  |_,_=>none
 |_,_,_=>none
def G3(P:Program)(op:Op)(g:Operand->I)(b:Nat)(v:I)(o:ca):Prop:=match op with
 |.makeSlice t l c=>G2 P t (g l) (g c) b=some (v,o)
 |_=>False
theorem G4{P:Program}{op:Op}{g:Operand->I}{b:Nat}{v:I}{o:ca}(h:G3 P op g b v o):iN P op g b=some (v,o):=by
 cases op<;>first|exact h|exact absurd h id
def G5(P:Program)(gd:Option (I×Bool))(s:DStep)(g:Operand->I)(b:Nat)(st:iy)(hs:List Hint):jF (ga iy):=
 match gd with
 |none=>match hs with
  |.OS v o::hs=>.cr ⟨⟨v::st.env,st.d,st.q,st.h.set b (some o),st.aY⟩,[G3 P s.o.op g b v o],hs⟩
  |hs=>match iN P s.o.op g b with
   |some (v,o)=>.cr ⟨⟨v::st.env,st.d,st.q,st.h.set b (some o),st.aY⟩,[],hs⟩
   |none=>.stop ("alloc " ++s.o.pos) none
 |some (.bool x,c)=>match hs with
  |.b y::hs=>match y==c with
   |true=>match iN P s.o.op g b with
    |some (v,o)=>.cr ⟨⟨v::st.env,st.d,st.q,st.h.set b (some o),st.aY⟩,[x=y],hs⟩
    |none=>.stop ("alloc " ++s.o.pos) none
   |false=>.cr ⟨⟨.aK []::st.env,st.d,st.q,st.h,st.aY⟩,[x=y],hs⟩
  |_=>.stop ("guard " ++s.o.pos) (some x)
 |some (.aK [],_)=>.cr ⟨⟨.aK []::st.env,st.d,st.q,st.h,st.aY⟩,[],hs⟩
 |_=>.stop ("guard of what " ++s.o.pos) none
def yQ(P:Program)(need:Nat)(inR:Bool)(call:aP->List I->J->av)(ops:Array Oper)(Γ:Env)(cp:Nat)(s:DStep)(st:iy)(hs:List Hint):jF (ga iy):=
 match tN P need s.i st.env Γ s.loc s.o with
 |false=>.stop ("an operand " ++s.o.pos) none
 |true=>match v9 P need ops s.i st.env Γ s with
  |none=>.stop ("guard " ++s.o.pos) none
  |some gd=>match kindOf P s.o.op with
   |.alloc=>G5 P gd s (jG P need s.i st.env Γ s.loc) (cp+s.i) st hs
   |.pure=>match tM P inR call gd s.o (jG P need s.i st.env Γ s.loc) st.d st.q st.h hs with
    |.cr ⟨.ok v _ _ _,cs,c8⟩=>.cr ⟨⟨v::st.env,st.d,st.q,st.h,st.aY⟩,cs,c8⟩
    |.cr ⟨.bK _ _ _ _,_,_⟩=>.stop ("a panic " ++s.o.pos) none
    |.stop w x=>.stop w x
   |.dI=>match r6 s st.aY with
    |false=>.stop ("order " ++s.o.pos) none
    |true=>match tM P inR call gd s.o (jG P need s.i st.env Γ s.loc) st.d st.q st.h hs with
     |.cr ⟨.ok v bn q' ak,cs,c8⟩=>.cr ⟨⟨v::st.env,bn,q',ak,(s.i,s.ek,st.h)::st.aY⟩,cs,c8⟩
     |.cr ⟨.bK _ _ _ _,_,_⟩=>.stop ("a panic " ++s.o.pos) none
     |.stop w x=>.stop w x
def yR(P:Program)(need:Nat)(inR:Bool)(call:aP->List I->J->av)(ops:Array Oper)(Γ:Env)(cp:Nat):List DStep->iy->List Hint->jF (ga iy)
 |[],st,hs=>.cr ⟨st,[],hs⟩
 |s::rest,st,hs=>match yQ P need inR call ops Γ cp s st hs with
  |.cr ⟨bX,cs,c8⟩=>match yR P need inR call ops Γ cp rest bX c8 with
   |.cr ⟨y,bH,r4⟩=>.cr ⟨y,cs++bH,r4⟩
   |.stop w x=>.stop w x
  |.stop w x=>.stop w x
def B0(P:Program)(need:Nat)(inR:Bool)(call:aP->List I->J->av)(ops:Array Oper)(Γ:Env)(s:DStep)(rest:List DStep)(st:iy)(hs:List Hint):jF (ga (I×iy)):=
 match tN P need s.i st.env Γ s.loc s.o with
 |false=>.stop ("an operand " ++s.o.pos) none
 |true=>match v9 P need ops s.i st.env Γ s with
  |none=>.stop ("guard " ++s.o.pos) none
  |some gd=>match kindOf P s.o.op with
   |.dI=>match r6 s st.aY with
    |false=>.stop ("order " ++s.o.pos) none
    |true=>match tM P inR call gd s.o (jG P need s.i st.env Γ s.loc) st.d st.q st.h hs with
     |.cr ⟨.bK v bn q' ak,cs,c8⟩=>match rest.all (λbo=>Nat.testBit bo.ek s.i) with
      |true=>.cr ⟨(v,⟨st.env,bn,q',ak,(s.i,s.ek,st.h)::st.aY⟩),cs,c8⟩
      |false=>.stop ("panic " ++s.o.pos) none
     |_=>.stop ("no panic " ++s.o.pos) none
   |_=>.stop ("no panic " ++s.o.pos) none
def yS(P:Program)(need:Nat)(inR:Bool)(call:aP->List I->J->av)(ops:Array Oper)(Γ:Env)(cp:Nat):List DStep->iy->List Hint->jF (ga (I×iy))
 |[],_,_=>.stop "no panic" none
 |s::rest,st,hs=>match B0 P need inR call ops Γ s rest st hs with
  |.cr y=>.cr y
  |.stop _ _=>match yQ P need inR call ops Γ cp s st hs with
   |.cr ⟨bX,cs,c8⟩=>match yS P need inR call ops Γ cp rest bX c8 with
    |.cr ⟨y,bH,r4⟩=>.cr ⟨y,cs++bH,r4⟩
    |.stop w x=>.stop w x
   |.stop w x=>.stop w x
mutual
def I.sound:I->Bool
 |.bad=>false
 |.fn _ a b=>h9 a&&h9 b
 |.iface _ v=>v.sound
 |.agg l=>h9 l
 |.aK l=>h9 l
 |_=>true
def h9:List I->Bool
 |[]=>true
 |a::l=>a.sound&&h9 l
end
def G6(o:Oper)(g:Operand->I):Option (Bool×I×I):=match o.op with
 |.pick c a b=>match g c with
  |.bool x=>some (x,g a,g b)
  |_=>none
 |_=>none
def isLen(o:Oper):Bool:=match o.op with
 |.call c=>match c.callee with
  |.builtin .len=>true
  |_=>false
 |_=>false
def v_(P:Program)(o:Oper)(g:Operand->I)(h:J)(v:I):List Prop:=match G6 o g with
 |some (x,a,b)=>[v.sound=true,cond x a b=v]
 |none=>match isLen o with
  |true=>[v.sound=true,mY P o g h v]
  |false=>match BX o g with
   |1=>[v.sound=true,mY P o g h v]
   |_=>match ch P o g h with
    |.val v' _=>[v.sound=true,v'=v]
    |_=>[False]
def lookW(v:I)(q p:Prop):Prop:=match v with
 |.aK []=>q
 |_=>p
def B1(P:Program)(need:Nat)(ops:Array Oper)(Γ:Env)(n:Nat)(env:List I)(s:DStep)(v:I)(h:J):List Prop:=
 match tN P need n env Γ s.loc s.o,v9 P need ops n env Γ s with
 |true,some gd=>match gd with
  |none=>v_ P s.o (jG P need n env Γ s.loc) h v
  |some (.bool x,b)=>[lookW v ((x==b)=false) (ed (v_ P s.o (jG P need n env Γ s.loc) h v))]
  |some (.aK [],_)=>[]
  |_=>[False]
 |_,_=>[False]
def o3(s:DStep)(dn:Option Nat)(aY:ma):Bool:=(match dn with|none=>false|some e=>Nat.testBit s.ek e)||(match aY with|[]=>false|(_,m,_)::_=>Nat.testBit m s.i)
def tO(P:Program)(need:Nat)(ops:Array Oper)(Γ:Env)(n:Nat)(env:List I)(s:DStep)(v:I):Option Nat->J->ma->List Prop
 |dn,h,aY=>
  (match o3 s dn aY with
   |true=>[]
   |false=>B1 P need ops Γ n env s v h)++
  (match aY with
   |[]=>[]
   |(e,_,ak)::rest=>tO P need ops Γ n env s v (some e) ak rest)
def yT(P:Program)(need:Nat)(ops:Array Oper)(Γ:Env)(n:Nat)(env:List I)(h:J)(aY:ma):List DStep->List Prop
 |[]=>[]
 |s::rest=>(match Nat.blt s.i n,kindOf P s.o.op with
   |true,.pure=>tO P need ops Γ n env s ((nth (n-1-s.i) env).getD .bad) none h aY
   |_,_=>[])++yT P need ops Γ n env h aY rest
def yU(P:Program)(need:Nat)(ops:Array Oper)(Γ:Env)(n:Nat)(env:List I)(last:Option Nat)(h:J)(aY:ma):List DStep->List Prop
 |[]=>[]
 |s::rest=>(match Nat.blt s.i n,kindOf P s.o.op with
   |true,.pure=>tO P need ops Γ n env s ((nth (n-1-s.i) env).getD .bad) last h aY
   |_,_=>[])++yU P need ops Γ n env last h aY rest
def B2(P:Program)(need:Nat)(inR:Bool)(call:aP->List I->J->av)(ops:Array Oper)(st:ao)(hs:List Hint):jF (ga (bu×ao)):=
 match yS P need inR call ops st.Γ st.h.n (ev ops.toList 0 [] []) ⟨[],st.d,st.q,st.h.room ops.size,[]⟩ hs with
 |.cr ⟨(v,⟨env,d,q,h,(e,m,h0)::aY⟩),cs,c8⟩=>.cr ⟨(.bK v,⟨yP (hr ops.toList 0 []) st.Γ,d,q,h⟩),cs++yU P need ops st.Γ env.length env (some e) h0 aY (ev ops.toList 0 [] []),c8⟩
 |.cr _=>.stop "no panic" none
 |.stop w x=>.stop w x
def B3(P:Program)(need:Nat)(inR:Bool)(call:aP->List I->J->av)(ops:Array Oper)(st:ao)(hs:List Hint):jF (ga (bu×ao)):=
 match yR P need inR call ops st.Γ st.h.n (ev ops.toList 0 [] []) ⟨[],st.d,st.q,st.h.room ops.size,[]⟩ hs with
 |.cr ⟨⟨env,d,q,h,aY⟩,cs,c8⟩=>.cr ⟨(.nrm,⟨r5 need env.length env st.Γ (hr ops.toList 0 []) st.Γ,d,q,h⟩),cs++yT P need ops st.Γ env.length env h aY (ev ops.toList 0 [] []),c8⟩
 |.stop _ _=>B2 P need inR call ops st hs
def cW(P:Program)(need:Nat)(rd:Option Nat)(call:aP->List I->J->av)(c:Code)(st:ao)(e:bu)(bX:ao):Prop:=
 ∀r,Mod r st.Γ->∃r',da P need rd call c r st.d st.q st.h=.ok e r' bX.d bX.q bX.h/\Mod r' bX.Γ
def OX(need:Nat)(Γ:Env)(loc:List (Nat×Acc)):k7->Option (bu×ao)
 |.ok env d q h=>some (.nrm,⟨r5 need env.length env Γ loc Γ,d,q,h⟩)
 |.bK v d q h=>some (.bK v,⟨yP loc Γ,d,q,h⟩)
 |.fail _=>none
def j_(P:Program)(need:Nat)(rd:Option Nat)(call:aP->List I->J->av):Code->ao->List Hint->jF (ga (bu×ao))
 |.skip,st,hs=>.cr ⟨(.nrm,st),[],hs⟩
 |.label _,st,hs=>.cr ⟨(.nrm,st),[],hs⟩
 |.exit id,st,hs=>.cr ⟨(.exit id,st),[],hs⟩
 |.ret,st,hs=>.cr ⟨(.ret,st),[],hs⟩
 |.scope b,st,hs=>j_ P need rd call b st hs
 |.region id ops draw,st,hs=>
  match draw with
  |false=>
   match yO P need rd.isSome call st.Γ (nB P need ops).steps [] st.d st.q st.h hs with
   |.cr ⟨x,cs,c8⟩=>match OX need st.Γ (nB P need ops).loc x with
    |some r=>.cr ⟨r,cs,c8⟩
    |none=>.stop "region" none
   |.stop w x=>.stop w x
  |true=>B3 P need rd.isSome call ops st hs
 |.seq a b,st,hs=>match j_ P need rd call a st hs with
  |.cr ⟨(.nrm,bX),cs,c8⟩=>match j_ P need rd call b bX c8 with
   |.cr ⟨r,bH,r4⟩=>.cr ⟨r,cs++bH,r4⟩
   |.stop w x=>.stop w x
  |x=>x
 |.cond c a b,st,hs=>match l_ 0 [] st.Γ (cw P need [] c) with
  |some (.bool x)=>match hs with
   |.b true::hs=>match j_ P need rd call a st hs with
    |.cr ⟨r,cs,c8⟩=>.cr ⟨r,(x=true)::cs,c8⟩
    |.stop w x=>.stop w x
   |.b false::hs=>match j_ P need rd call b st hs with
    |.cr ⟨r,cs,c8⟩=>.cr ⟨r,(x=false)::cs,c8⟩
    |.stop w x=>.stop w x
   |_=>.stop "if" (some x)
  |_=>.stop "if what" none
 |.block id b,st,hs=>match j_ P need rd call b st hs with
  |.cr ⟨(.exit i,bX),cs,c8⟩=>match Nat.beq i id with
   |true=>.cr ⟨(.nrm,bX),cs,c8⟩
   |false=>.cr ⟨(.exit i,bX),cs,c8⟩
  |x=>x
 |.loop b,st,hs=>match hs with
  |.loop e bX::hs=>.cr ⟨(e,bX),[cW P need rd call (.loop b) st e bX],hs⟩
  |_=>.stop "loop" none
 |.rangeFunc f ps as b6,st,hs=>match hs with
  |.loop e bX::hs=>.cr ⟨(e,bX),[cW P need rd call (.rangeFunc f ps as b6) st e bX],hs⟩
  |_=>.stop "range over a function" none
 |.goto _,_,_=>.stop "goto" none
 |.refuse _,_,_=>.stop "refuse" none
end aw
namespace aw
open Go
theorem B4:∀(p q:gZ),p.num=q.num->p=q
 |.here,.here,_=>rfl
 |.here,.l q,h=>by simp only[gZ.num] at h;omega
 |.here,.r q,h=>by simp only[gZ.num] at h;omega
 |.l p,.here,h=>by simp only[gZ.num] at h;omega
 |.r p,.here,h=>by simp only[gZ.num] at h;omega
 |.l p,.l q,h=>by rw[B4 p q (by simp only[gZ.num] at h;omega)]
 |.r p,.r q,h=>by rw[B4 p q (by simp only[gZ.num] at h;omega)]
 |.l p,.r q,h=>by simp only[gZ.num] at h;omega
 |.r p,.l q,h=>by simp only[gZ.num] at h;omega
theorem G7(p:gZ):fV p.num=p:=B4 _ _ (xQ _)
theorem r7(t u:Nat):(t=u/\Nat.beq t u=true)\/(t≠u/\Nat.beq t u=false):=by
 by_cases h:t=u
 · exact .inl ⟨h,by simp[h]⟩
 · refine .inr ⟨h,?_⟩
   cases af:Nat.beq t u with
   |false=>rfl
   |true=>exact absurd (Nat.eq_of_beq_eq_true af) h
theorem B5(t u:Nat):∀Γ:Env,eX t (del u Γ)=if t=u then none else eX t Γ
 |[]=>by simp[del,eX]
 |(x,v)::l=>by
  have bg:=B5 t u l
  simp only[del]
  rcases r7 u x with⟨e,af⟩|⟨e,af⟩
  · rw[af];simp only[bg,eX]
    subst e
    rcases r7 t u with⟨ax,dw⟩|⟨ax,dw⟩
    · rw[if_pos ax,if_pos ax]
    · rw[if_neg ax,if_neg ax,dw]
  · rw[af];simp only[eX,bg]
    rcases r7 t x with⟨ax,dw⟩|⟨ax,dw⟩
    · rw[dw];simp only[]
      rw[if_neg]
      intro h;exact e (by rw[<-h,ax])
    · rw[dw]
theorem OY(t u:Nat)(v:I)(Γ:Env):eX t (put u v Γ)=if t=u then some v else eX t Γ:=by
 simp only[put,eX]
 rcases r7 t u with⟨e,af⟩|⟨e,af⟩
 · rw[af,if_pos e]
 · rw[af,if_neg e,B5,if_neg e]
theorem Mod.put{r:aL}{Γ:Env}(h:Mod r Γ)(t:Nat)(v:I):Mod (r.set (fV t) v) (put t v Γ):=by
 intro u x ab
 rw[OY] at ab
 rw[aL.bL]
 by_cases e:u=t
 · rw[if_pos e] at ab⊢;cases ab;rfl
 · rw[if_neg e] at ab⊢;exact h u x ab
theorem Mod.del{r:aL}{Γ:Env}(h:Mod r Γ)(t:Nat)(v:I):Mod (r.set (fV t) v) (del t Γ):=by
 intro u x ab
 rw[B5] at ab
 rw[aL.bL]
 by_cases e:u=t
 · rw[if_pos e] at ab;cases ab
 · rw[if_neg e] at ab⊢;exact h u x ab
theorem B6(Γ:Env)(t:Nat)(v:I):∀l,eX t (ll Γ l)=some v->eX t Γ=some v
 |[],h=>by simp[ll,eX] at h
 |u::l,h=>by
  simp only[ll] at h
  cases hu:eX u Γ with
  |none=>rw[hu] at h;exact B6 Γ t v l h
  |some x=>
   rw[hu] at h
   simp only[eX] at h
   rcases r7 t u with⟨e,af⟩|⟨e,af⟩
   · rw[af] at h;rw[e,hu];exact h
   · rw[af] at h;exact B6 Γ t v l h
theorem Mod.ll{r:aL}{Γ:Env}(h:Mod r Γ)(l:List Nat):Mod r (ll Γ l):=λt v aQ=>h t v (B6 Γ t v l aQ)
theorem r8{m:Nat}{env:List I}{r:aL}{Γ:Env}(hm:Mod r Γ){a:Acc}{v:I}(h:l_ m env Γ a=some v):dk m env r a=v:=by
 cases a with
 |env j=>simp only[l_] at h;simp only[dk,h,Option.getD_some]
 |jS p=>simp only[l_] at h;simp only[dk];rw[<-G7 p];exact hm _ _ h
 |val x=>cases h;rfl
section
variable {P:Program}
theorem r9{o:Oper}{g:Operand->I}{h:J}{v:I}(ag:mY P o g h v):ch P o g h=.val v h:=by
 obtain⟨dst,op,type,pos,after,guard⟩:=o
 cases op<;>simp only[mY] at ag<;>(try exact ag.elim)
 case load t a=>
  split at ag
  · rename_i b off n aj aX aG
    simp only[ch,aj,aX,ag,e3]
  · rename_i b off n aj aX aG
    split at ag
    · simp only[ch,aj,aX,aG,ag]
    · exact ag.elim
  · exact ag.elim
 case binOp op t x y yt=>
  split at ag
  · rename_i k a dH b ab aU
    split at ag
    · simp only[ch,ab,aU,dX,ag,e3]
    · simp only[ch,ab,aU,dX,ag,e3]
    · rename_i gJ iS
      split at ag
      · rename_i aq
        have eP:k=dH:=of_decide_eq_true aq
        simp only[ch,ab,aU,dX]
        cases op<;>first|exact absurd rfl gJ|exact absurd rfl iS|(simp only[if_pos eP,ag,e3])
      · exact ag.elim
  · rename_i a b ab aU
    simp only[ch,ab,aU,dX,ag,e3]
  · simp only[ch,ag,e3]
 case unOp op t x=>
  split at ag
  · rename_i k n ab;simp only[ch,ab,ag]
  · rename_i k n ab;simp only[ch,ab,ag,e3]
  · exact ag.elim
 case slice t x a9 ae mx=>simp only[ch,ag,e3]
 case index t x i=>
  split at ag
  · rename_i s n hu ab ae
    unfold ln at ag
    simp only[ch,hu,ab,ae]
    split at ag
    · rename_i dh af;cases ag;simp only[af]
    · cases ag
  · rename_i m e cs n hu ab ae
    split at ag
    · rename_i sz br
      simp only[ch,hu,ab,ae,br,if_pos ag.1,ag.2,e3]
    · exact ag.elim
  · exact ag.elim
 case indexAddr t x i=>
  split at ag
  · rename_i m e b off n hu ab ae
    split at ag
    · rename_i sz br
      simp only[ch,hu,ab,ae,br,if_pos ag.1,ag.2]
    · exact ag.elim
  · rename_i e b off m c n hu ab ae
    split at ag
    · rename_i sz br
      simp only[ch,hu,ab,ae,br,if_pos ag.1,ag.2]
    · exact ag.elim
  · exact ag.elim
 case lookup t x i ok=>simp only[ch,ag,e3]
 case entry it=>simp only[ch,ag,e3]
 case convert src dst x=>simp only[ch,ag]
 case call c=>
  split at ag
  · rename_i x t hU gr aQ;simp only[ch,hU,gr,hg,aQ,ag,e3]
  · rename_i x t hU gr aQ;simp only[ch,hU,gr,hg,aQ,ag,e3]
  · rename_i x l _ hU gr;simp only[ch,hU,gr,hg,ag,e3]
  · rename_i x l _ hU gr;simp only[ch,hU,gr,hg,ag,e3]
  · rename_i x t hU gr aQ
    simp only[ch,hU,gr]
    simp only[hg,aQ] at ag⊢
    exact ag
  · exact ag.elim
theorem G8:∀(n:Nat) (cs bH:List I),eB n [I.bad] cs=some bH->False
 |0,[],_,h=>by simp[eB] at h
 |0,_::_,_,h=>by simp[eB,I.bC] at h
 |_+1,[],_,h=>by simp[eB] at h
 |n+1,c::cs,bH,h=>by
  simp only[eB] at h
  split at h
  · rename_i r ai;exact G8 n cs r ai
  · cases h
theorem OZ{h ak:J}{b off:Nat}(hs:aw.storeCells h b off (I.cells .bad)=some ak):False:=by
 unfold aw.storeCells at hs
 split at hs
 · split at hs
   · split at hs
     · rename_i a6;exact G8 _ _ _ a6
     · cases hs
   · cases hs
 · cases hs
theorem B7{o:Oper}{g:Operand->I}{h ak:J}{v:I}(ag:tL P o g h v ak):ch P o g h=.val v ak:=by
 obtain⟨dst,op,type,pos,after,guard⟩:=o
 cases op<;>simp only[tL] at ag<;>(try exact ag.elim)
 case store t a x=>
  split at ag
  · rename_i b off aj
    obtain⟨aa,ad,rfl⟩:=ag
    simp only[ch,aj]
    rw[aa]
    have af:g x≠ .bad:=λaf=>by
     rw[af] at ad
     exact OZ ad
    cases qu:g x<;>first|exact absurd qu af|(rw[qu] at ad;simp[ad,oD])
  · exact ag.elim
 case convert src dst x=>simp only[ch,ag]
 case mapUpdate t m k x=>obtain⟨aa,rfl⟩:=ag;simp only[ch,aa,oD]
 case insert t m k x=>obtain⟨aa,rfl⟩:=ag;simp only[ch,aa,oD]
 case mapEntry t m k=>simp only[ch,ag,jT]
 case entryStore t m s x=>obtain⟨aa,rfl⟩:=ag;simp only[ch,aa,oD]
 case next it isStr=>simp only[ch,ag,jT]
 case range t x=>
  split at ag
  · rename_i cI hc hu
    unfold GZ at ag
    split at ag
    · rename_i m aj
      split at ag
      · rename_i es c hm
        cases ag
        simp only[ch,hu,aj,hm]
      · cases ag
    · cases ag
  · exact ag.elim
 case makeSlice t l c=>
  unfold tK at ag
  simp only[ch]
  split at ag
  · rename_i e h4 c' hu an vZ
    split at ag
    · rename_i i z ae aT
      simp only[hu,an,vZ,ae,aT]
      split at ag
      · rename_i jl
        rw[if_pos jl]
        split at ag
        · rename_i b ah aG;cases ag;simp only[aG]
        · cases ag
      · cases ag
    · cases ag
  · cases ag
 case call c=>
  split at ag
  · rename_i x y t hU gr aQ;simp only[ch,hU,gr,hg,aQ,ag,jT]
  · rename_i x y t hU gr aQ;simp only[ch,hU,gr,hg,aQ,ag,jT]
  · rename_i x t hU gr aQ;simp only[ch,hU,gr,hg,aQ,ag,jT]
  · rename_i x y t hU gr aQ;simp only[ch,hU,gr,hg,aQ,ag,jT]
  · rename_i x y t hU gr aQ;simp only[ch,hU,gr,hg,aQ,ag,jT]
  · exact ag.elim
variable {inR:Bool} {call:aP->List I->J->av}
theorem G9{pos:String}{f:aP}{args:List I}{d:List bA}{q:bt}{h:J}{hs:List Hint}{y:ga lo}(ab:yM call pos f args d q h hs=.cr y)(ag:ed y.cs):u5 d q (call f args h)=y.res.res:=by
 unfold yM at ab
 split at ab
 · cases ab;rw[ag.1];rfl
 · cases ab;rw[ag.1];rfl
 · cases ab
theorem O0{o:Oper}{g:Operand->I}{d:List bA}{q:bt}{h:J}{hs:List Hint}{y:ga lo}(ab:BY P inR call o g d q h hs=.cr y)(ag:ed y.cs):
  dm P inR call none o g d q h=y.res.res:=by
 unfold BY at ab
 unfold dm
 simp only[dO]
 split at ab
 · cases ab
   rw[r9 ag.1];rfl
 · split at ab
   · rename_i e x c8 bf
     cases ab
     have aa:(g x).cells.all I.bC=true:=ag.1.h
     have he:o.op=.box e x:=by
      unfold G0 at bf
      split at bf
      · split at bf
        · rename_i he;cases bf;exact he
        · cases bf
      · cases bf
     have:ch P o g h=.val (.ptr h.n 0) (h.push (.cells (g x).cells e .own 0 0)):=by
      unfold ch;rw[he];simp only[newRow,aa]
     rw[this];rfl
   · split at ab
     · split at ab
       · rename_i fE;cases ab;rw[fE];rfl
       · rename_i fE;cases ab;rw[fE];rfl
       · rename_i fE;rw[fE];exact G9 ab ag
       · rename_i fE;rw[fE];exact G9 ab ag
       · rename_i z fE
         split at ab
         · cases ab
         · cases ab;rw[fE];rfl
       · rename_i fE
         split at ab
         · cases ab
         · split at ab
           · cases ab;rw[fE];rfl
           · cases ab;rw[fE];rfl
           · cases ab;rw[fE];rfl
       · cases ab
     · split at ab
       · cases ab
         rw[r9 ag.1];rfl
       · cases ab
     · split at ab
       · cases ab
         rw[B7 ag.1];rfl
       · cases ab
theorem G_{o:Oper}{g:Operand->I}{d:List bA}{q:bt}{h:J}{hs:List Hint}{y:ga lo}(ab:yN P inR call o g d q h hs=.cr y)(ag:ed y.cs):
  dm P inR call none o g d q h=y.res.res:=by
 unfold yN at ab
 cases a6:BZ o g d q h hs with
 |none=>rw[a6] at ab;exact O0 ab ag
 |some z=>
  rw[a6] at ab
  simp only at ab
  subst ab
  unfold BZ at a6
  split at a6
  · rename_i fk a b fi
    split at a6
    · rename_i dh aj
      split at a6
      · cases a6
        obtain⟨rfl,_⟩:=ag
        unfold dm ch
        simp[dO,fi,aj,lo.res]
      · cases a6
        obtain⟨rfl,_⟩:=ag
        unfold dm ch
        simp[dO,fi,aj,lo.res]
      · cases a6
    · cases a6
  · cases a6
theorem tP{gd:Option (I×Bool)}(hw:dO gd=some true)(o:Oper)(g:Operand->I)(d:List bA)(q:bt)(h:J):dm P inR call gd o g d q h=dm P inR call none o g d q h:=by
 unfold dm
 rw[hw]
 rfl
theorem wa{gd:Option (I×Bool)}(hw:dO gd=some false)(o:Oper)(g:Operand->I)(d:List bA)(q:bt)(h:J):dm P inR call gd o g d q h=.ok (.aK []) d q h:=by
 unfold dm
 simp only[hw]
theorem wb{gd:Option (I×Bool)}{o:Oper}{g:Operand->I}{d:List bA}{q:bt}{h:J}{hs:List Hint}{y:ga lo}(ab:tM P inR call gd o g d q h hs=.cr y)(ag:ed y.cs):
  dm P inR call gd o g d q h=y.res.res:=by
 unfold tM at ab
 split at ab
 · exact G_ ab ag
 · rename_i XG b
   split at ab
   · rename_i c gJ
     split at ab
     · rename_i jC
       split at ab
       · rename_i s iw iS cJ
         cases ab
         obtain⟨rfl,qw⟩:=ag
         rw[tP (by simp only[dO];rw[jC])]
         exact(G_ cJ qw:)
       · cases ab
     · rename_i jC
       cases ab
       obtain⟨rfl,_⟩:=ag
       rw[wa (by simp only[dO];rw[jC])];rfl
   · cases ab
 · cases ab
   rw[wa rfl];rfl
 · cases ab
variable {need:Nat}
theorem yV{m:Nat}{env:List I}{r:aL}{Γ:Env}(hm:Mod r Γ){loc:List (Nat×Acc)}{o:Oper}(aq:tN P need m env Γ loc o=true):∀x∈o.op.operands,dk m env r (cw P need loc x)=jG P need m env Γ loc x:=by
 intro x ab
 unfold tN at aq
 rw[List.all_eq_true] at aq
 have:=aq x (by simpa using ab)
 obtain⟨v,aB⟩:=Option.isSome_iff_exists.1 this
 unfold jG
 rw[aB,r8 hm aB];rfl
theorem Ha{r:aL}{Γ:Env}(hm:Mod r Γ):∀(l:List Step) (env:List I) (d:List bA) (q:bt) (h:J) (hs:List Hint) (y:ga k7),yO P need inR call Γ l env d q h hs=.cr y->ed y.cs->
  iL P need inR call r l env d q h=y.res
 |[],env,d,q,h,hs,y,ab,ag=>by cases ab;rfl
 |s::rest,env,d,q,h,hs,y,ab,ag=>by
  simp only[yO] at ab
  split at ab
  · cases ab
  · rename_i aq
    split at ab
    · cases ab
    · rename_i gd fZ
      have key:∀z,dm P inR call gd s.o (jG P need s.m env Γ s.loc) d q h=z->iL P need inR call r (s::rest) env d q h=match z with
        |.ok v bn q' ak=>iL P need inR call r rest (v::env) bn q' ak
        |.bK v bn q' ak=>.bK v bn q' ak
        |.fail w=>.fail w:=λz aT=>by
       simp only[iL]
       rw[<-aT,<-rT (yV hm aq)]
       unfold G1 at fZ
       cases BH:s.guard with
       |none=>rw[BH] at fZ;cases fZ;rfl
       |some p=>
        obtain⟨a,b⟩:=p
        rw[BH] at fZ
        simp only at fZ
        cases aB:l_ s.m env Γ a with
        |none=>rw[aB] at fZ;cases fZ
        |some v=>rw[aB] at fZ;cases fZ;simp only[r8 hm aB];rfl
      split at ab
      · rename_i v bn q' ak iw gJ fF
        split at ab
        · rename_i z wc iS pY
          cases ab
          obtain⟨c1,c2⟩:=ed.append ag
          have aa:=wb fF c1
          have gS:dm P inR call gd s.o (jG P need s.m env Γ s.loc) d q h=.ok v bn q' ak:=aa
          rw[key _ gS]
          exact(Ha hm rest (v::env) bn q' ak gJ _ pY c2:)
        · cases ab
      · rename_i v bn q' ak iw gJ fF
        cases ab
        have aa:=wb fF ag
        have gS:dm P inR call gd s.o (jG P need s.m env Γ s.loc) d q h=.bK v bn q' ak:=aa
        rw[key _ gS]
      · cases ab
theorem B8{m:Nat}{env:List I}{gE:aL}{fv:Env}(hm:Mod gE fv):∀(l:List (Nat×Acc)) (r:aL) (Γ:Env),Mod r Γ->Mod (oE need m env gE l r) (r5 need m env fv l Γ)
 |[],r,Γ,h=>h
 |(t,a)::l,r,Γ,h=>by
  have bg:=B8 (m:=m) (env:=env) hm l r Γ h
  simp only[oE,r5]
  cases Nat.testBit need t with
  |false=>exact bg
  |true=>
   simp only
   cases aj:l_ m env fv a with
   |some v=>simp only;rw[r8 hm aj];exact bg.put t v
   |none=>simp only;exact bg.del t _
theorem B9:∀(l:List (Nat×Acc)) (r:aL) (Γ:Env),Mod r Γ->Mod (tg l r) (yP l Γ)
 |[],r,Γ,h=>h
 |(t,a)::l,r,Γ,h=>(B9 l r Γ h).del t _
mutual
theorem r_:∀v:I,v.sound=true->I.beq v v=true
 |.bool b,_=>by simp[I.beq]
 |.int k n,_=>by simp[I.beq,cU]
 |.str s,_=>by simp[I.beq,mN]
 |.bd,_=>rfl
 |.ptr a i,_=>by simp[I.beq]
 |.a0,_=>rfl
 |.slice a i n c,_=>by cases c<;>simp[I.beq,cf.beq]
 |.gm,_=>rfl
 |.map a,_=>by simp[I.beq]
 |.eN,_=>rfl
 |.fn f a b,h=>by
  simp only[I.sound,Bool.and_eq_true] at h
  simp only[I.beq,we a h.1,we b h.2,Bool.and_true]
  simp
 |.bQ a,_=>by simp[I.beq]
 |.dW,_=>rfl
 |.iface t v,h=>by
  simp only[I.sound] at h
  simp only[I.beq,r_ v h,Bool.and_true]
  simp
 |.agg l,h=>by
  simp only[I.sound] at h
  simp only[I.beq,we l h]
 |.aK l,h=>by
  simp only[I.sound] at h
  simp only[I.beq,we l h]
 |.bad,h=>by simp[I.sound] at h
theorem we:∀l:List I,h9 l=true->I.iM l l=true
 |[],_=>rfl
 |a::l,h=>by
  simp only[h9,Bool.and_eq_true] at h
  simp only[I.iM,r_ a h.1,we l h.2,Bool.and_true]
end
theorem B_{ops:Array Oper}{r:aL}{Γ:Env}(hm:Mod r Γ){n:Nat}{env:List I}{s:DStep}{gd:Option (I×Bool)}(h:v9 P need ops n env Γ s=some gd):fL P need ops r n env s=gd:=by
 unfold v9 at h
 unfold fL
 split at h
 · rename_i aj;rw[aj];cases h;rfl
 · rename_i a b aj
   rw[aj]
   split at h
   · rename_i v aB
     cases h
     simp only[r8 hm aB]
   · cases h
def O1(P:Program)(need:Nat)(inR:Bool)(call:aP->List I->J->av)(ops:Array Oper)(r:aL)(cp:Nat)(s:DStep)(st bX:iy):Prop:=
 ∀rest,fq P need inR call ops r cp (s::rest) st.env st.d st.q st.h st.aY=fq P need inR call ops r cp rest bX.env bX.d bX.q bX.h bX.aY
theorem Hb{ops:Array Oper}{r:aL}{Γ:Env}(hm:Mod r Γ){cp:Nat}{s:DStep}{st:iy}{hs:List Hint}{y:ga iy}(ab:yQ P need inR call ops Γ cp s st hs=.cr y)(ag:ed y.cs):O1 P need inR call ops r cp s st y.res:=by
 intro rest
 unfold yQ at ab
 split at ab
 · cases ab
 · rename_i aq
   have aj:=yV hm aq
   split at ab
   · cases ab
   · rename_i gd fZ
     have az:=B_ hm fZ
     split at ab
     · rename_i gb
       have aX:=vU (P:=P) (o:=s.o.op) (b:=cp+s.i) aj
       simp only[fq,gb,az]
       rw[aX]
       unfold G5 at ab
       split at ab
       · split at ab
         · cases ab
           have hB:=G4 ag.1
           simp only[dO,hB]
         · split at ab
           · rename_i v o hB
             cases ab
             simp only[dO,hB]
           · cases ab
       · split at ab
         · rename_i x c _ fl gJ
           split at ab
           · rename_i Ca
             split at ab
             · rename_i v o hB
               cases ab
               obtain⟨rfl,_⟩:=ag
               simp only[dO,Ca,hB]
             · cases ab
           · rename_i Ca
             cases ab
             obtain⟨rfl,_⟩:=ag
             simp only[dO,Ca]
         · cases ab
       · cases ab
         simp only[dO]
       · cases ab
     · rename_i gb
       simp only[fq,gb,az]
       rw[rT aj]
       split at ab
       · rename_i v bn q' ak iw gJ fF
         cases ab
         have aa:=wb fF ag
         have gS:dm P inR call gd s.o (jG P need s.i st.env Γ s.loc) st.d st.q st.h=.ok v bn q' ak:=aa
         rw[gS]
       · cases ab
       · cases ab
     · rename_i gb
       split at ab
       · cases ab
       · rename_i j8
         simp only[fq,gb,az]
         rw[rT aj]
         split at ab
         · rename_i v bn q' ak iw gJ fF
           cases ab
           have aa:=wb fF ag
           have gS:dm P inR call gd s.o (jG P need s.i st.env Γ s.loc) st.d st.q st.h=.ok v bn q' ak:=aa
           rw[gS]
           cases b5:st.aY with
           |nil=>rfl
           |cons a l=>
            obtain⟨e,m,ah⟩:=a
            rw[b5] at j8
            simp only[r6] at j8
            simp only[j8]
         · cases ab
         · cases ab
theorem Hc{ops:Array Oper}{r:aL}{Γ:Env}(hm:Mod r Γ){cp:Nat}:∀(l:List DStep) (st:iy) (hs:List Hint) (y:ga iy),yR P need inR call ops Γ cp l st hs=.cr y->ed y.cs->
  fq P need inR call ops r cp l st.env st.d st.q st.h st.aY=.ok y.res.env y.res.d y.res.q y.res.h y.res.aY
 |[],st,hs,y,ab,ag=>by cases ab;rfl
 |s::rest,st,hs,y,ab,ag=>by
  simp only[yR] at ab
  split at ab
  · rename_i st1 iw gJ aa
    split at ab
    · rename_i eE wc iS ad
      cases ab
      obtain⟨c1,c2⟩:=ed.append ag
      rw[Hb hm aa c1 rest]
      exact(Hc hm rest st1 gJ ⟨eE,wc,iS⟩ ad c2:)
    · cases ab
  · cases ab
theorem O2{o:Oper}{g:Operand->I}{h:J}{v:I}(ag:ed (v_ P o g h v)):∃v' ak,ch P o g h=.val v' ak/\I.beq v' v=true:=by
 unfold v_ at ag
 split at ag
 · rename_i x a b a6
   obtain⟨aa,ad,_⟩:=ag
   refine⟨v,h,?_,r_ v aa⟩
   unfold G6 at a6
   split at a6
   · rename_i c cQ j0 a2
     split at a6
     · rename_i c5 yW
       cases a6
       cases x<;>simp only[ch,a2,yW]<;>rw[<-ad]<;>rfl
     · cases a6
   · cases a6
 split at ag
 · exact⟨v,h,r9 ag.2.1,r_ v ag.1⟩
 split at ag
 · exact⟨v,h,r9 ag.2.1,r_ v ag.1⟩
 · split at ag
   · rename_i v' ak he
     obtain⟨aa,rfl,_⟩:=ag
     exact⟨v',ak,he,r_ v' aa⟩
   · exact ag.1.elim
theorem Hd{ops:Array Oper}{r:aL}{Γ:Env}(hm:Mod r Γ){n:Nat}{env:List I}{s:DStep}{v:I}{h:J}(ag:ed (B1 P need ops Γ n env s v h)):ku P need ops r n env s v h=true:=by
 unfold B1 at ag
 unfold ku
 split at ag
 · rename_i gd aq fZ
   rw[B_ hm fZ]
   have aj:=yV hm aq
   have key:ed (v_ P s.o (jG P need n env Γ s.loc) h v)->(match ch P s.o (λx=>dk n env r (cw P need s.loc x)) h with
     |.val v' _=>I.beq v' v
     |_=>false)=true:=λan=>by
    rw[vT s.o h aj]
    obtain⟨v',ak,aC,ax⟩:=O2 an
    rw[aC];exact ax
   split at ag
   · simp only[dO];exact key ag
   · rename_i x b
     simp only[dO]
     obtain⟨ag,_⟩:=ag
     unfold lookW at ag
     split at ag
     · rw[ag]
     · cases Fz:(x==b) with
       |false=>rfl
       |true=>exact key ag
   · rfl
   · exact ag.1.elim
 · exact ag.1.elim
theorem yX{ops:Array Oper}{r:aL}{n:Nat}{env:List I}{s:DStep}{v:I}(dn:Option Nat)(h:J)(aY:ma):jB P need ops r n env s v dn h aY=
  ((match o3 s dn aY with|true=>true|false=>ku P need ops r n env s v h)&&(match aY with|[]=>true|(e,_,ak)::rest=>jB P need ops r n env s v (some e) ak rest)):=by
 cases aY<;>(rw[jB.eq_def];rfl)
theorem Cb{ops:Array Oper}{r:aL}{Γ:Env}(hm:Mod r Γ){n:Nat}{env:List I}{s:DStep}{v:I}:∀(aY:ma) (dn:Option Nat) (h:J),ed (tO P need ops Γ n env s v dn h aY)->jB P need ops r n env s v dn h aY=true
 |[],dn,h,ag=>by
  rw[yX]
  unfold tO at ag
  obtain⟨c1,_⟩:=ed.append ag
  cases af:o3 s dn [] with
  |true=>rfl
  |false=>rw[af] at c1;simp only[Bool.and_true];exact Hd hm c1
 |(e,m,ak)::rest,dn,h,ag=>by
  rw[yX]
  unfold tO at ag
  obtain⟨c1,c2⟩:=ed.append ag
  have bg:=Cb hm rest (some e) ak c2
  cases af:o3 s dn ((e,m,ak)::rest) with
  |true=>simp only[Bool.true_and];exact bg
  |false=>
   rw[af] at c1
   simp only
   rw[Hd hm c1,Bool.true_and];exact bg
theorem He{ops:Array Oper}{r:aL}{Γ:Env}(hm:Mod r Γ){n:Nat}{env:List I}{h:J}{aY:ma}:∀(l:List DStep),ed (yT P need ops Γ n env h aY l)->jU P need ops r n env none h aY l=true
 |[],_=>rfl
 |s::rest,ag=>by
  simp only[yT] at ag
  obtain⟨c1,c2⟩:=ed.append ag
  simp only[jU]
  rw[He hm rest c2,Bool.and_true]
  cases aa:Nat.blt s.i n with
  |false=>rfl
  |true=>
   rw[aa] at c1
   cases ad:kindOf P s.o.op with
   |pure=>rw[ad] at c1;exact Cb hm aY none h c1
   |alloc=>rfl
   |dI=>rfl
theorem O3{ops:Array Oper}{r:aL}{Γ:Env}(hm:Mod r Γ){cp:Nat}{s:DStep}{rest:List DStep}{st:iy}{hs:List Hint}{y:ga (I×iy)}(ab:B0 P need inR call ops Γ s rest st hs=.cr y)(ag:ed y.cs):
  fq P need inR call ops r cp (s::rest) st.env st.d st.q st.h st.aY=.bK y.res.1 y.res.2.env y.res.2.d y.res.2.q y.res.2.h y.res.2.aY:=by
 unfold B0 at ab
 split at ab
 · cases ab
 · rename_i aq
   have aj:=yV hm aq
   split at ab
   · cases ab
   · rename_i gd fZ
     have az:=B_ hm fZ
     split at ab
     · rename_i gb
       split at ab
       · cases ab
       · rename_i j8
         simp only[fq,gb,az]
         rw[rT aj]
         split at ab
         · rename_i v bn q' ak iw gJ fF
           split at ab
           · rename_i eO
             cases ab
             have aa:=wb fF ag
             have gS:dm P inR call gd s.o (jG P need s.i st.env Γ s.loc) st.d st.q st.h=.bK v bn q' ak:=aa
             rw[gS]
             cases b5:st.aY with
             |nil=>simp only[eO]
             |cons a l=>
              obtain⟨e,m,ah⟩:=a
              rw[b5] at j8
              simp only[r6] at j8
              simp only[j8,eO]
           · cases ab
         · cases ab
     · cases ab
theorem Hf{ops:Array Oper}{r:aL}{Γ:Env}(hm:Mod r Γ){cp:Nat}:∀(l:List DStep) (st:iy) (hs:List Hint) (y:ga (I×iy)),yS P need inR call ops Γ cp l st hs=.cr y->ed y.cs->
  fq P need inR call ops r cp l st.env st.d st.q st.h st.aY=.bK y.res.1 y.res.2.env y.res.2.d y.res.2.q y.res.2.h y.res.2.aY
 |[],st,hs,y,ab,ag=>by cases ab
 |s::rest,st,hs,y,ab,ag=>by
  simp only[yS] at ab
  split at ab
  · rename_i fl aa
    cases ab
    exact O3 hm aa ag
  · split at ab
    · rename_i st1 iw gJ aa
      split at ab
      · rename_i eE wc iS ad
        cases ab
        obtain⟨c1,c2⟩:=ed.append ag
        rw[Hb hm aa c1 rest]
        exact(Hf hm rest st1 gJ ⟨eE,wc,iS⟩ ad c2:)
      · cases ab
    · cases ab
theorem Hg{ops:Array Oper}{r:aL}{Γ:Env}(hm:Mod r Γ){n:Nat}{env:List I}{last:Option Nat}{h:J}{aY:ma}:∀(l:List DStep),ed (yU P need ops Γ n env last h aY l)->jU P need ops r n env last h aY l=true
 |[],_=>rfl
 |s::rest,ag=>by
  simp only[yU] at ag
  obtain⟨c1,c2⟩:=ed.append ag
  simp only[jU]
  rw[Hg hm rest c2,Bool.and_true]
  cases aa:Nat.blt s.i n with
  |false=>rfl
  |true=>
   rw[aa] at c1
   cases ad:kindOf P s.o.op with
   |pure=>rw[ad] at c1;exact Cb hm aY last h c1
   |alloc=>rfl
   |dI=>rfl
theorem O4{id:Nat}{ops:Array Oper}{rd:Option Nat}{st:ao}{hs:List Hint}{y:ga (bu×ao)}(ab:B2 P need rd.isSome call ops st hs=.cr y)(ag:ed y.cs):cW P need rd call (.region id ops true) st y.res.1 y.res.2:=by
 unfold B2 at ab
 split at ab
 · rename_i v env d q h e m h0 aY iw gJ az
   cases ab
   obtain⟨c1,c2⟩:=ed.append ag
   intro r hm
   have aa:=Hf hm _ _ _ _ az c1
   have ad:=Hg hm _ c2
   simp only at aa
   refine⟨_,?_,B9 _ _ _ hm⟩
   have gS:fq P need rd.isSome call ops r st.h.n (ev ops.toList 0 [] []) [] st.d st.q ⟨st.h.t,st.h.n+ops.size⟩ []=.bK v env d q h ((e,m,h0)::aY):=aa
   simp only[da,ra,gS,ad,oF]
 · cases ab
 · cases ab
theorem O5{id:Nat}{ops:Array Oper}{rd:Option Nat}{st:ao}{hs:List Hint}{y:ga (bu×ao)}(ab:B3 P need rd.isSome call ops st hs=.cr y)(ag:ed y.cs):cW P need rd call (.region id ops true) st y.res.1 y.res.2:=by
 unfold B3 at ab
 split at ab
 · rename_i env d q h aY iw gJ az
   cases ab
   obtain⟨c1,c2⟩:=ed.append ag
   intro r hm
   have aa:=Hc hm _ _ _ _ az c1
   have ad:=He hm _ c2
   simp only at aa
   refine⟨_,?_,B8 hm _ _ _ hm⟩
   have gS:fq P need rd.isSome call ops r st.h.n (ev ops.toList 0 [] []) [] st.d st.q ⟨st.h.t,st.h.n+ops.size⟩ []=.ok env d q h aY:=aa
   simp only[da,ra,gS,ad,oF]
 · exact O4 ab ag
variable {rd:Option Nat}
theorem nZ:∀(c:Code) (st:ao) (hs:List Hint) (y:ga (bu×ao)),j_ P need rd call c st hs=.cr y->ed y.cs->cW P need rd call c st y.res.1 y.res.2
 |.skip,st,hs,y,ab,ag=>by cases ab;exactλr ai=>⟨r,rfl,ai⟩
 |.label _,st,hs,y,ab,ag=>by cases ab;exactλr ai=>⟨r,rfl,ai⟩
 |.exit id,st,hs,y,ab,ag=>by cases ab;exactλr ai=>⟨r,rfl,ai⟩
 |.ret,st,hs,y,ab,ag=>by cases ab;exactλr ai=>⟨r,rfl,ai⟩
 |.scope b,st,hs,y,ab,ag=>nZ b st hs y ab ag
 |.region id ops draw,st,hs,y,ab,ag=>by
  simp only[j_] at ab
  cases draw with
  |true=>exact O5 ab ag
  |false=>
   simp only at ab
   split at ab
   · rename_i x iw gJ b5
     split at ab
     · rename_i r1 Cc
       cases ab
       intro r ai
       have aa:=Ha ai _ _ _ _ _ _ _ b5 ag
       simp only at aa
       simp only[da,aa]
       cases x with
       |ok env d q h=>cases Cc;exact⟨_,rfl,B8 ai _ _ _ ai⟩
       |bK v d q h=>cases Cc;exact⟨_,rfl,B9 _ _ _ ai⟩
       |fail w=>cases Cc
     · cases ab
   · cases ab
 |.seq a b,st,hs,y,ab,ag=>by
  simp only[j_] at ab
  split at ab
  · rename_i st1 iw gJ aX
    split at ab
    · rename_i r2 wc iS af
      cases ab
      obtain⟨c1,c2⟩:=ed.append ag
      intro r ai
      obtain⟨r1,aa,cm⟩:=nZ a st hs _ aX c1 r ai
      obtain⟨r2,ad,fY⟩:=nZ b st1 gJ _ af c2 r1 cm
      exact⟨r2,by simp only at aa ad;simp only[da,aa,oG,ad],fY⟩
    · cases ab
  · rename_i df
    intro r ai
    obtain⟨r1,aa,cm⟩:=nZ a st hs y ab ag r ai
    refine⟨r1,?_,cm⟩
    simp only[da,aa]
    refine rK (λcx=>?_)
    obtain⟨⟨aC,st1⟩,iw,gJ⟩:=y
    simp only at cx
    subst cx
    exact df _ _ _ ab
 |.cond c a b,st,hs,y,ab,ag=>by
  simp only[j_] at ab
  split at ab
  · rename_i x aj
    split at ab
    · split at ab
      · rename_i r1 iw gJ aX
        cases ab
        obtain⟨rfl,c1⟩:=ag
        intro r ai
        obtain⟨r1,aa,cm⟩:=nZ a st _ _ aX c1 r ai
        exact⟨r1,by simp only at aa;simp only[da,r8 ai aj,aa],cm⟩
      · cases ab
    · split at ab
      · rename_i r1 iw gJ aX
        cases ab
        obtain⟨rfl,c1⟩:=ag
        intro r ai
        obtain⟨r1,aa,cm⟩:=nZ b st _ _ aX c1 r ai
        exact⟨r1,by simp only at aa;simp only[da,r8 ai aj,aa],cm⟩
      · cases ab
    · cases ab
  · cases ab
 |.block id b,st,hs,y,ab,ag=>by
  simp only[j_] at ab
  split at ab
  · rename_i i st1 iw gJ af
    split at ab
    · rename_i ae
      cases ab
      obtain rfl:=Nat.eq_of_beq_eq_true ae
      intro r ai
      obtain⟨r1,aa,cm⟩:=nZ b st hs _ af ag r ai
      exact⟨r1,by simp only at aa;simp only[da,aa,if_true],cm⟩
    · rename_i ae
      cases ab
      intro r ai
      obtain⟨r1,aa,cm⟩:=nZ b st hs _ af ag r ai
      have df:¬i=id:=by intro cx;subst cx;simp at ae
      exact⟨r1,by simp only at aa;simp only[da,aa,if_neg df],cm⟩
  · rename_i df
    intro r ai
    obtain⟨r1,aa,cm⟩:=nZ b st hs y ab ag r ai
    refine⟨r1,?_,cm⟩
    obtain⟨⟨aC,st1⟩,iw,gJ⟩:=y
    simp only at aa
    simp only[da,aa]
    cases aC<;>first|rfl|exact absurd ab (df _ _ _ _)
 |.loop b,st,hs,y,ab,ag=>by
  simp only[j_] at ab
  split at ab
  · cases ab;exact ag.1
  · cases ab
 |.rangeFunc f ps as b6,st,hs,y,ab,ag=>by
  simp only[j_] at ab
  split at ab
  · cases ab;exact ag.1
  · cases ab
 |.goto _,st,hs,y,ab,ag=>by cases ab
 |.refuse _,st,hs,y,ab,ag=>by cases ab
end
end aw
namespace aw
open Go
def sub:Code->List Nat->Code
 |c,[]=>c
 |.seq a _,0::l=>sub a l
 |.seq _ b,_::l=>sub b l
 |.cond _ a _,0::l=>sub a l
 |.cond _ _ b,_::l=>sub b l
 |.block _ b,_::l=>sub b l
 |.loop b,_::l=>sub b l
 |.scope b,_::l=>sub b l
 |.rangeFunc _ _ a _,0::l=>sub a l
 |.rangeFunc _ _ _ b,_::l=>sub b l
 |c,_::_=>c
def fm(fn:Func):Code:=fn.body.getD .skip
def cl:Env->Env->Prop
 |[],_=>True
 |(t,v)::l,Γ=>eX t Γ=some v/\cl l Γ
theorem cl.ok:∀{g6 Γ:Env},cl g6 Γ->∀t v,eX t g6=some v->eX t Γ=some v
 |[],Γ,_,t,v,h=>by simp[eX] at h
 |(u,x)::l,Γ,⟨aa,ad⟩,t,v,h=>by
  simp only[eX] at h
  rcases r7 t u with⟨e,af⟩|⟨e,af⟩
  · rw[af] at h;cases h;rw[e];exact aa
  · rw[af] at h;exact cl.ok ad t v h
theorem Mod.sub{r:aL}{Γ g6:Env}(h:Mod r Γ)(hs:cl g6 Γ):Mod r g6:=λt v aQ=>h t v (hs.ok t v aQ)
section
variable {P:Program} {need:Nat} {rd:Option Nat} {call:aP->List I->J->av}
def Cd(bZ:List Nat):jF (ga (bu×ao))->Option (ga (bu×ao))
 |.cr ⟨(e,⟨Γ,d,q,h⟩),cs,[]⟩=>some ⟨(e,⟨ll Γ bZ,d,q,h⟩),cs,[]⟩
 |_=>none
theorem O6{c:Code}{st:ao}{hs:List Hint}{e:bu}{bX:ao}{cs:List Prop}(bZ:List Nat)(ab:Cd bZ (j_ P need rd call c st hs)=some ⟨(e,bX),cs,[]⟩)(ag:ed cs):cW P need rd call c st e bX:=by
 unfold Cd at ab
 split at ab
 · rename_i aC fK d1 aR aa iw O7
   cases ab
   intro r ai
   obtain⟨r1,aa,cm⟩:=nZ c st hs _ O7 ag r ai
   exact⟨r1,aa,cm.ll bZ⟩
 · cases ab
theorem cW.pre{c:Code}{st st1 bX:ao}{e:bu}(h:cW P need rd call c st e bX)(hs:cl st.Γ st1.Γ)(az:st1.d=st.d)(bh:st1.q=st.q)(ah:st1.h=st.h):cW P need rd call c st1 e bX:=by
 intro r ai
 obtain⟨r1,aa,cm⟩:=h r (ai.sub hs)
 exact⟨r1,by rw[az,bh,ah];exact aa,cm⟩
theorem cW.post{c:Code}{st bX:ao}{g6:Env}{e:bu}(h:cW P need rd call c st e bX)(hs:cl g6 bX.Γ):cW P need rd call c st e {bX with Γ:=g6}:=by
 intro r ai
 obtain⟨r1,aa,cm⟩:=h r ai
 exact⟨r1,aa,cm.sub hs⟩
def mZ(P:Program)(need:Nat)(rd:Option Nat)(call:aP->List I->J->av)(b:Code)(n:Nat)(st:ao)(e:bu)(bX:ao):Prop:=
 ∀r,Mod r st.Γ->∃r',nC (da P need rd call b) n r st.d st.q st.h=.ok e r' bX.d bX.q bX.h/\Mod r' bX.Γ
theorem mZ.step{b:Code}{n:Nat}{st st1 bX:ao}{e:bu}(h:cW P need rd call b st .nrm st1)(ad:mZ P need rd call b n st1 e bX):mZ P need rd call b (n+1) st e bX:=by
 intro r ai
 obtain⟨r1,aC,cm⟩:=h r ai
 obtain⟨r2,ax,fY⟩:=ad r1 cm
 exact⟨r2,by simp only[nC,aC,oG,ax],fY⟩
theorem mZ.exit{b:Code}{n:Nat}{st bX:ao}{e:bu}(h:cW P need rd call b st e bX)(he:e≠ .nrm):mZ P need rd call b (n+1) st e bX:=by
 intro r ai
 obtain⟨r1,aC,cm⟩:=h r ai
 exact⟨r1,by simp only[nC,aC];exact rK he,cm⟩
theorem Ce{f:aL->List bA->bt->J->hZ}:∀{n m:Nat},n<=m->∀{r d q h e r' bn q' ak},nC f n r d q h=.ok e r' bn q' ak->nC f m r d q h=.ok e r' bn q' ak
 |0,_,_,_,_,_,_,_,_,_,_,_,h=>by cases h
 |n+1,0,hle,_,_,_,_,_,_,_,_,_,_=>by omega
 |n+1,m+1,hle,r,d,q,h,e,r',bn,q',ak,ab=>by
  simp only[nC] at ab⊢
  cases hf:f r d q h with
  |fail w=>rw[hf] at ab;cases ab
  |ok aC r1 d1 aR aa=>
   rw[hf] at ab
   cases aC<;>simp only[oG] at ab⊢ <;>first|exact Ce (by omega) ab|exact ab
theorem mZ.run{b:Code}{n:Nat}{st bX:ao}{e:bu}(h:mZ P need rd call b n st e bX)(aG:n<=100000):cW P need rd call (.loop b) st e bX:=by
 intro r ai
 obtain⟨r1,aC,cm⟩:=h r ai
 exact⟨r1,by simp only[da];exact Ce aG aC,cm⟩
def m0:Nat->List I->Env
 |_,[]=>[]
 |i,v::l=>(i,v)::m0 (i+1) l
theorem Hh(t:Nat)(v:I):∀(l:List I) (i:Nat),eX t (m0 i l)=some v->i<=t/\t<i+l.length/\l[t-i]? =some v
 |[],i,h=>by simp[m0,eX] at h
 |x::l,i,h=>by
  simp only[m0,eX] at h
  rcases r7 t i with⟨e,af⟩|⟨e,af⟩
  · rw[af] at h;cases h;subst e;simp
  · rw[af] at h
    obtain⟨aa,ad,ar⟩:=Hh t v l (i+1) h
    refine⟨by omega,by simp;omega,?_⟩
    have:t-i=(t-(i+1))+1:=by omega
    rw[this];simpa using ar
theorem yY(args:List I):Mod (mG 0 args .leaf) (m0 0 args):=by
 intro t v h
 obtain⟨aa,ad,ar⟩:=Hh t v args 0 h
 rw[Bh,if_pos ⟨aa,ad⟩,ar];rfl
def n0(P:Program)(need:Nat)(Γ:Env)(h:J)(x:ResultVar):Option I:=
 match x with
 |.tmp t=>match Nat.testBit need t with
  |true=>eX t Γ
  |false=>none
 |.cell t ty=>match Nat.testBit need t with
  |true=>match eX t Γ with
   |none=>none
   |some p=>match p,k6 P ty,cV P ty with
    |.ptr b off,some true,some n=>(match loadCells h b off n with|some cs=>some (.agg cs)|none=>none)
    |.ptr b off,some false,_=>ay h b off
    |_,_,_=>none
  |false=>none
theorem O8{Γ:Env}{r:aL}(hm:Mod r Γ){h:J}{x:ResultVar}{v:I}(ab:n0 P need Γ h x=some v):pO P need r h x=some v:=by
 cases x with
 |tmp t=>
  simp only[n0,pO] at ab⊢
  split at ab
  · rename_i af
    rw[af];simp only[hm t v ab]
  · cases ab
 |cell t ty=>
  simp only[n0,pO] at ab⊢
  split at ab
  · rename_i af
    rw[af]
    simp only
    cases an:eX t Γ with
    |none=>rw[an] at ab;simp at ab
    |some p=>rw[an] at ab;rw[hm t p an];exact ab
  · cases ab
def m1(P:Program)(need:Nat)(fn:Func)(Γ:Env)(h:J):Option I:=
 match lR (n0 P need Γ h) fn.results.toList with
 |some [v]=>some v
 |some vs=>some (.aK vs)
 |none=>none
theorem Hi{Γ:Env}{r:aL}(hm:Mod r Γ){h:J}:∀(l:List ResultVar) (vs:List I),lR (n0 P need Γ h) l=some vs->lR (pO P need r h) l=some vs
 |[],vs,ab=>ab
 |x::l,vs,ab=>by
  simp only[lR] at ab⊢
  cases aa:n0 P need Γ h x with
  |none=>rw[aa] at ab;simp at ab
  |some v=>
   rw[aa] at ab
   cases ad:lR (n0 P need Γ h) l with
   |none=>rw[ad] at ab;simp at ab
   |some ws=>
    rw[ad] at ab
    rw[O8 hm aa,Hi hm l ws ad];exact ab
theorem Cf{Γ:Env}{r:aL}(hm:Mod r Γ){h:J}{fn:Func}{v:I}(ab:m1 P need fn Γ h=some v):oH P need fn r h=some v:=by
 unfold m1 at ab
 unfold oH
 cases aX:lR (n0 P need Γ h) fn.results.toList with
 |none=>rw[aX] at ab;cases ab
 |some vs=>
  rw[aX] at ab
  rw[Hi hm _ _ aX];exact ab
variable {intr:Nat->List I->J->Option (I×J)}
theorem O9{f:Nat}{fn:Func}{c:Code}{n:Nat}{args:List I}{h:J}(hf:P.funcs[f]? =some fn)(af:fn.body=some c)(aG:dx fn=need)(ae:intr f args h=none)(hle:Nat.ble args.length fn.ntmps=true)
  {e:bu}{Γ:Env}{q:bt}{ak:J}(eo:cW P need none (e4 P intr n) c ⟨m0 0 args,[],.none,h⟩ e ⟨Γ,[],q,ak⟩)(he:e=.ret\/e=.nrm){v:I}(hR:m1 P need fn Γ ak=some v):
  e4 P intr (n+1) (.fn f) args h=.ret v ak:=by
 subst aG
 obtain⟨r1,aa,cm⟩:=eo _ (yY args)
 have ai:=Cf cm hR
 simp only[e4,ae,pP,hf,af,k8,hle,aa]
 rcases he with rfl|rfl<;>simp only[k9,iO,ai]
theorem O_{f:Nat}{fn:Func}{c:Code}{n:Nat}{args:List I}{h:J}(hf:P.funcs[f]? =some fn)(af:fn.body=some c)(aG:dx fn=need)(ae:intr f args h=none)(hle:Nat.ble args.length fn.ntmps=true)
  {v:I}{Γ:Env}{q:bt}{ak:J}(eo:cW P need none (e4 P intr n) c ⟨m0 0 args,[],.none,h⟩ (.bK v) ⟨Γ,[],q,ak⟩):
  e4 P intr (n+1) (.fn f) args h=.bK v ak:=by
 subst aG
 obtain⟨r1,aa,cm⟩:=eo _ (yY args)
 simp only[e4,ae,pP,hf,af,k8,hle,aa,k9,iO]
abbrev aV(P:Program)(fn:Func)(rd:Option Nat)(call:aP->List I->J->av)(path:List Nat)(st:ao)(e:bu)(bX:ao):Prop:=cW P (dx fn) rd call (sub (fm fn) path) st e bX
abbrev Pa(P:Program)(fn:Func)(rd:Option Nat)(call:aP->List I->J->av)(path:List Nat)(st:ao)(hs:List Hint):jF (ga (bu×ao)):=j_ P (dx fn) rd call (sub (fm fn) path) st hs
theorem bY{fn:Func}{path:List Nat}{st:ao}{hs:List Hint}{e:bu}{bX:ao}{cs:List Prop}(bZ:List Nat)(ab:Cd bZ (Pa P fn rd call path st hs)=some ⟨(e,bX),cs,[]⟩)(ag:ed cs):aV P fn rd call path st e bX:=O6 bZ ab ag
end
end aw
namespace aw
open Go
theorem Hj:∀(c:Code) (x:Nat) (l:List Nat),sub c (x::l)=sub (sub c [x]) l
 |.seq a b,0,l=>by simp[sub]
 |.seq a b,_+1,l=>by simp[sub]
 |.cond _ a b,0,l=>by simp[sub]
 |.cond _ a b,_+1,l=>by simp[sub]
 |.rangeFunc _ _ a b,0,l=>by simp[sub]
 |.rangeFunc _ _ a b,_+1,l=>by simp[sub]
 |.block _ b,x,l=>by simp[sub]
 |.loop b,x,l=>by simp[sub]
 |.scope b,x,l=>by simp[sub]
 |.skip,x,l=>by cases l<;>simp[sub]
 |.region _ _ _,x,l=>by cases l<;>simp[sub]
 |.exit _,x,l=>by cases l<;>simp[sub]
 |.ret,x,l=>by cases l<;>simp[sub]
 |.label _,x,l=>by cases l<;>simp[sub]
 |.goto _,x,l=>by cases l<;>simp[sub]
 |.refuse _,x,l=>by cases l<;>simp[sub]
theorem jr(c:Code):∀(p l:List Nat),sub c (p++l)=sub (sub c p) l
 |[],l=>by simp[sub]
 |x::p,l=>by rw[List.cons_append,Hj,jr (sub c [x]) p l,<-Hj]
def wg:Code->Bool
 |.seq _ _=>true
 |_=>false
def wh(id:Nat):Code->Bool
 |.block i _=>Nat.beq i id
 |_=>false
def yZ:Code->Bool
 |.loop _=>true
 |_=>false
theorem Cg{c:Code}(h:wg c=true):c=.seq (sub c [0]) (sub c [1]):=by
 cases c<;>simp[wg,sub] at h⊢
theorem Ch{c:Code}{id:Nat}(h:wh id c=true):c=.block id (sub c [0]):=by
 cases c<;>simp only[wh] at h<;>(try (cases h;done))
 obtain rfl:=Nat.eq_of_beq_eq_true h
 simp[sub]
theorem Pb{c:Code}(h:yZ c=true):c=.loop (sub c [0]):=by
 cases c<;>simp[yZ,sub] at h⊢
section
variable {P:Program} {rd:Option Nat} {call:aP->List I->J->av} {fn:Func}
theorem cW.seq{need:Nat}{a b:Code}{st st1 oT:ao}{e:bu}(aa:cW P need rd call a st .nrm st1)(ad:cW P need rd call b st1 e oT):cW P need rd call (.seq a b) st e oT:=by
 intro r ai
 obtain⟨r1,aC,cm⟩:=aa r ai
 obtain⟨r2,ax,fY⟩:=ad r1 cm
 exact⟨r2,by simp only[da,aC,oG,ax],fY⟩
theorem cW.iT{need:Nat}{a b:Code}{st st1:ao}{e:bu}(aa:cW P need rd call a st e st1)(he:e≠ .nrm):cW P need rd call (.seq a b) st e st1:=by
 intro r ai
 obtain⟨r1,aC,cm⟩:=aa r ai
 exact⟨r1,by simp only[da,aC];exact rK he,cm⟩
theorem cW.block{need:Nat}{id:Nat}{b:Code}{st st1:ao}(aa:cW P need rd call b st (.exit id) st1):cW P need rd call (.block id b) st .nrm st1:=by
 intro r ai
 obtain⟨r1,aC,cm⟩:=aa r ai
 exact⟨r1,by simp only[da,aC,if_true],cm⟩
theorem cW.tQ{need:Nat}{id:Nat}{b:Code}{st st1:ao}{e:bu}(aa:cW P need rd call b st e st1)(he:e≠ .exit id):cW P need rd call (.block id b) st e st1:=by
 intro r ai
 obtain⟨r1,aC,cm⟩:=aa r ai
 refine⟨r1,?_,cm⟩
 simp only[da,aC]
 cases e<;>first|rfl|(rename_i i;exact if_neg λh=>he (by rw[h]))
theorem aV.seq{p:List Nat}{st st1 oT:ao}{e:bu}(hs:wg (sub (fm fn) p)=true)(aa:aV P fn rd call (p++[0]) st .nrm st1)(ad:aV P fn rd call (p++[1]) st1 e oT):aV P fn rd call p st e oT:=by
 unfold aV at*
 rw[Cg hs]
 rw[jr] at aa ad
 exact aa.seq ad
theorem aV.iT{p:List Nat}{st st1:ao}{e:bu}(hs:wg (sub (fm fn) p)=true)(aa:aV P fn rd call (p++[0]) st e st1)(he:e≠ .nrm):aV P fn rd call p st e st1:=by
 unfold aV at*
 rw[Cg hs]
 rw[jr] at aa
 exact aa.iT he
theorem aV.block{p:List Nat}{id:Nat}{st st1:ao}(hs:wh id (sub (fm fn) p)=true)(aa:aV P fn rd call (p++[0]) st (.exit id) st1):aV P fn rd call p st .nrm st1:=by
 unfold aV at*
 rw[Ch hs]
 rw[jr] at aa
 exact aa.block
theorem aV.tQ{p:List Nat}{id:Nat}{st st1:ao}{e:bu}(hs:wh id (sub (fm fn) p)=true)(aa:aV P fn rd call (p++[0]) st e st1)(he:e≠ .exit id):aV P fn rd call p st e st1:=by
 unfold aV at*
 rw[Ch hs]
 rw[jr] at aa
 exact aa.tQ he
def fw(P:Program)(fn:Func)(rd:Option Nat)(call:aP->List I->J->av)(p:List Nat)(n:Nat)(st:ao)(e:bu)(bX:ao):Prop:=mZ P (dx fn) rd call (sub (fm fn) (p++[0])) n st e bX
theorem fw.step{p:List Nat}{n:Nat}{st st1 bX:ao}{e:bu}(h:aV P fn rd call (p++[0]) st .nrm st1)(ad:fw P fn rd call p n st1 e bX):fw P fn rd call p (n+1) st e bX:=mZ.step h ad
theorem fw.exit{p:List Nat}{n:Nat}{st bX:ao}{e:bu}(h:aV P fn rd call (p++[0]) st e bX)(he:e≠ .nrm):fw P fn rd call p (n+1) st e bX:=mZ.exit h he
theorem fw.run{p:List Nat}{n:Nat}{st bX:ao}{e:bu}(hs:yZ (sub (fm fn) p)=true)(h:fw P fn rd call p n st e bX)(aG:n<=100000):aV P fn rd call p st e bX:=by
 unfold aV
 rw[Pb hs]
 unfold fw at h
 rw[jr] at h
 exact mZ.run h aG
theorem eY{intr:Nat->List I->J->Option (I×J)}{f:Nat}{n:Nat}{args:List I}{h:J}(hf:P.funcs[f]? =some fn)(af:fn.body.isSome=true)(ae:intr f args h=none)(hle:Nat.ble args.length fn.ntmps=true)
  {e:bu}{Γ:Env}{q:bt}{ak:J}(eo:aV P fn none (e4 P intr n) [] ⟨m0 0 args,[],.none,h⟩ e ⟨Γ,[],q,ak⟩)(he:e=.ret\/e=.nrm){v:I}(hR:m1 P (dx fn) fn Γ ak=some v):
  e4 P intr (n+1) (.fn f) args h=.ret v ak:=by
 obtain⟨c,ag⟩:=Option.isSome_iff_exists.1 af
 have sa:fm fn=c:=by simp[fm,ag]
 unfold aV at eo
 rw[sa] at eo
 simp only[sub] at eo
 exact O9 hf ag rfl ae hle eo he hR
theorem Pc{intr:Nat->List I->J->Option (I×J)}{f:Nat}{n:Nat}{args:List I}{h:J}(hf:P.funcs[f]? =some fn)(af:fn.body.isSome=true)(ae:intr f args h=none)(hle:Nat.ble args.length fn.ntmps=true)
  {v:I}{Γ:Env}{q:bt}{ak:J}(eo:aV P fn none (e4 P intr n) [] ⟨m0 0 args,[],.none,h⟩ (.bK v) ⟨Γ,[],q,ak⟩):e4 P intr (n+1) (.fn f) args h=.bK v ak:=by
 obtain⟨c,ag⟩:=Option.isSome_iff_exists.1 af
 have sa:fm fn=c:=by simp[fm,ag]
 unfold aV at eo
 rw[sa] at eo
 simp only[sub] at eo
 exact O_ hf ag rfl ae hle eo
theorem wi{i m:Nat}(ae:i<m)(hm:m<=1000000000000):arith BinOp.add IntKind.i64 (Int.ofNat i) (Int.ofNat 1)=some (I.int IntKind.i64 (Int.ofNat (i+1))):=by
 have h:=rk (i+1) (by omega)
 have e:Int.ofNat i+Int.ofNat 1=((i+1:Nat):Int):=rfl
 simp only[arith,e,h];rfl
theorem kM{a b:Nat}(h:a<b):et (Int.ofNat a) (Int.ofNat b)=true:=by simp[et];omega
theorem o4{a b:Nat}(h:¬a<b):et (Int.ofNat a) (Int.ofNat b)=false:=by simp[et];omega
theorem Pd{s:List UInt8}{i:Nat}(h:i<s.length):ln i s=some (.int .u8 (Int.ofNat (s[i]).toNat)):=by
 unfold ln
 rw[oK,List.getElem?_eq_getElem h]
end
end aw
namespace aw
open Go
structure Ext(B:Nat)(h ak:J):Prop where
 n:h.n<=ak.n
 get:∀b,b<B->ak.get b=h.get b
theorem Ext.refl(B:Nat)(h:J):Ext B h h:=⟨Nat.le_refl _,λ_ _=>rfl⟩
theorem Ext.trans{B kN:Nat}{h aa ad:J}(bM:B<=kN)(e:Ext B h aa)(cx:Ext kN aa ad):Ext B h ad:=⟨Nat.le_trans e.n cx.n,λb af=>(cx.get b (Nat.lt_of_lt_of_le af bM)).trans (e.get b af)⟩
theorem Ext.push{B:Nat}{h:J}(bM:B<=h.n)(o:ca):Ext B h (h.push o):=⟨by simp,λb af=>by rw[J.ec,if_neg (by omega)]⟩
theorem Ext.set{B:Nat}{h:J}{b:Nat}(af:B<=b)(o:Option ca):Ext B h (h.set b o):=⟨by simp,λc ag=>by rw[J.bL,if_neg (by omega)]⟩
theorem Ext.room(B:Nat)(h:J)(k:Nat):Ext B h (h.room k):=⟨by simp,λ_ _=>rfl⟩
theorem y0:∀(l m:List I),takeN l.length (l++m)=some l
 |[],m=>rfl
 |a::l,m=>by simp[takeN,y0 l m]
theorem y1{h:J}{b e a9 ae:Nat}{k:fB}{xs rest:List I}(aj:h.get b=some (.cells (xs++rest) e k a9 ae)):loadCells h b 0 xs.length=some xs:=by
 simp[loadCells,aj,g0,y0]
theorem Hk:∀(l m:List I) (x y:I) (r:List I),x.bC=true->eB l.length [x] (l++y::r)=some (l++x::r)
 |[],m,x,y,r,ab=>by
  simp only[List.length_nil,List.nil_append]
  cases r with
  |nil=>simp[eB,ab]
  |cons z r=>simp[eB,ab]
 |a::l,m,x,y,r,ab=>by
  have bg:=Hk l m x y r ab
  simp only[List.length_cons,List.cons_append,eB,bg]
section
variable {P:Program}
theorem wj{h:J}{e bytes size need:Nat}{z:I}{cs:List I}{fz:Nat}(aa:ks need bytes=true)(ad:Nat.beq z.cells.length size=true)(ar:cs.all I.bC=true):jz h e bytes size need z cs fz=some (.slice h.n 0 need (.aN size),h.push (.cells cs e .aN 0 fz)):=by
 unfold jz
 rw[aa,ad,ar];rfl
theorem Ci{h:J}{t:TypeId}{s:List UInt8}{ae:Nat}{dH:IntKind}(hu:P.underlying t=some .string)(ad:ae<=s.length):
  eu P h t (.str s) none (some (.int dH (Int.ofNat ae))) none=some (.str (s.take ae)):=by
 have a4:Nat.ble s.length s.length=true:=by simp
 have a_:Nat.ble ae s.length=true:=by simpa using ad
 have cO:Nat.ble 0 ae=true:=by simp
 simp only[eu,hu,bounds,iJ,e2,a4,a_,cO,lW,List.drop_zero,Nat.sub_zero]
theorem Pe{h:J}{t:TypeId}{s:List UInt8}{a9:Nat}{k:IntKind}(hu:P.underlying t=some .string)(ad:a9<=s.length):
  eu P h t (.str s) (some (.int k (Int.ofNat a9))) none none=some (.str (s.drop a9)):=by
 have a4:Nat.ble s.length s.length=true:=by simp
 have a_:Nat.ble a9 s.length=true:=by simpa using ad
 simp only[eu,hu,bounds,iJ,e2,a4,a_,lW]
 rw[List.take_of_length_le (by simp)]
theorem y2{x y:List UInt8}(h:x.length+y.length<=1000000000000):oA .add x y=some (.str (x++y)):=by
 have:¬(((x.length+y.length:Nat):Int)>IntKind.i64.max):=by
  have e:IntKind.i64.max=9223372036854775807:=rfl
  rw[e];omega
 simp only[oA,if_neg this]
end
end aw
namespace aw
open Go
variable {P:Program} {call:aP->List I->J->av}
def Hl(l:Nat)(e:bu)(need:Nat)(r:aL)(ps:List Nat)(as b6:Code)(dD:Nat)(h:J):av:=match e with
 |.nrm=>.ret (.bool true) (h.set l (some (.loop .ready none need r ps as b6 dD)))
 |.ret=>.ret (.bool false) (h.set l (some (.loop .done (some .ret) need r ps as b6 dD)))
 |.exit id=>.ret (.bool false) (h.set l (some (.loop .done (some (.exit id)) need r ps as b6 dD)))
 |.bK v=>.bK v h
 |.goto _=>.fail "goto in a round"
theorem Hm{l need t dD:Nat}{Γ fK g6:Env}{as b6:Code}{v:I}{h ad:J}{q a3:bt}{e:bu}{r:aL}
  (aj:h.get l=some (.loop .ready none need r [t] as b6 dD))(hm:Mod r Γ)
  (aX:cW P need (some l) call as ⟨put t v Γ,[],.none,h⟩ .nrm ⟨fK,[],q,h⟩)
  (af:cW P need (some l) call b6 ⟨fK,[],.none,h.set l (some (.loop .busy none need r [t] as b6 dD))⟩ e ⟨g6,[],a3,ad⟩)
  (aq:ad.get l=some (.loop .busy none need r [t] as b6 dD)):
  nD P call l [v] h=Hl l e need r [t] as b6 dD ad:=by
 obtain⟨r1,aC,cm⟩:=aX _ (hm.put t v)
 obtain⟨r2,ax,fY⟩:=af _ cm
 simp only at aC ax
 simp only[nD,aj,rb,aC,xM,ax]
 simp only[tj,aq]
 cases e<;>rfl
theorem kO{h:J}{b t:Nat}{x:I}(aj:h.get b=some (.cells [x] t .own 0 0)):ay h b 0=some x:=by
 simp only[ay,aj];rfl
theorem y3{h:J}{b t:Nat}{x y:I}(aU:y.bC=true)(aj:h.get b=some (.cells [x] t .own 0 0)):aw.storeCells h b 0 [y]=some (h.set b (some (.cells [y] t .own 0 0))):=by
 have hw:im .own 0 0 0 [y].length=true:=rfl
 simp only[aw.storeCells,aj,hw,eB,aU]
end aw
namespace aw
open Go
def W(P:Program)(need:Nat)(rd:Option Nat)(call:aP->List I->J->av)(c:Code)(Q:bu->aL->List bA->bt->J->Prop)(r:aL)(d:List bA)(q:bt)(h:J):Prop:=
 ∃e r' bn q' ak,da P need rd call c r d q h=.ok e r' bn q' ak/\Q e r' bn q' ak
section
variable {P:Program} {need:Nat} {rd:Option Nat} {call:aP->List I->J->av} {fn:Func}
theorem W.of{c:Code}{Q:bu->aL->List bA->bt->J->Prop}{r:aL}{st bX:ao}{e:bu}(ai:cW P need rd call c st e bX)(hm:Mod r st.Γ)(k:∀r',Mod r' bX.Γ->Q e r' bX.d bX.q bX.h):W P need rd call c Q r st.d st.q st.h:=by
 obtain⟨r',aa,ad⟩:=ai r hm
 exact⟨e,r',_,_,_,aa,k r' ad⟩
theorem W.seq{a b:Code}{Q:bu->aL->List bA->bt->J->Prop}{r:aL}{d:List bA}{q:bt}{h:J}
  (hw:W P need rd call a (λe r d q h=>(e=.nrm/\W P need rd call b Q r d q h)\/(e≠ .nrm/\Q e r d q h)) r d q h):W P need rd call (.seq a b) Q r d q h:=by
 obtain⟨e,r1,d1,aR,aa,ad,ar⟩:=hw
 rcases ar with⟨rfl,ax,r2,d2,a3,aM,bS,cK⟩|⟨df,bh⟩
 · exact⟨ax,r2,d2,a3,aM,by simp only[da,ad,oG,bS],cK⟩
 · exact⟨e,r1,d1,aR,aa,by simp only[da,ad];exact rK df,bh⟩
theorem W.block{id:Nat}{b:Code}{Q:bu->aL->List bA->bt->J->Prop}{r:aL}{d:List bA}{q:bt}{h:J}
  (hw:W P need rd call b (λe r d q h=>(e=.exit id/\Q .nrm r d q h)\/(e≠ .exit id/\Q e r d q h)) r d q h):W P need rd call (.block id b) Q r d q h:=by
 obtain⟨e,r1,d1,aR,aa,ad,ar⟩:=hw
 rcases ar with⟨rfl,bh⟩|⟨df,bh⟩
 · exact⟨.nrm,r1,d1,aR,aa,by simp only[da,ad,if_true],bh⟩
 · refine⟨e,r1,d1,aR,aa,?_,bh⟩
   simp only[da,ad]
   cases e<;>first|rfl|(rename_i i;exact if_neg λh=>df (by rw[h]))
abbrev WF(P:Program)(fn:Func)(rd:Option Nat)(call:aP->List I->J->av)(path:List Nat):=W P (dx fn) rd call (sub (fm fn) path)
theorem WF.seq{p:List Nat}{Q:bu->aL->List bA->bt->J->Prop}{r:aL}{d:List bA}{q:bt}{h:J}(hs:wg (sub (fm fn) p)=true)
  (hw:WF P fn rd call (p++[0]) (λe r d q h=>(e=.nrm/\WF P fn rd call (p++[1]) Q r d q h)\/(e≠ .nrm/\Q e r d q h)) r d q h):WF P fn rd call p Q r d q h:=by
 unfold WF at*
 rw[Cg hs]
 rw[jr,jr] at hw
 exact hw.seq
theorem WF.block{p:List Nat}{id:Nat}{Q:bu->aL->List bA->bt->J->Prop}{r:aL}{d:List bA}{q:bt}{h:J}(hs:wh id (sub (fm fn) p)=true)
  (hw:WF P fn rd call (p++[0]) (λe r d q h=>(e=.exit id/\Q .nrm r d q h)\/(e≠ .exit id/\Q e r d q h)) r d q h):WF P fn rd call p Q r d q h:=by
 unfold WF at*
 rw[Ch hs]
 rw[jr] at hw
 exact hw.block
def Cj(f:Operand)(ps:List Nat):Code->Bool
 |.rangeFunc (.tmp g) sb _ _=>(match f with|.tmp t=>Nat.beq g t|_=>false)&&sb.toList==ps
 |_=>false
theorem Pf{c:Code}{t:Nat}{ps:List Nat}(h:Cj (.tmp t) ps c=true):∃sb:Array Nat,sb.toList=ps/\c=.rangeFunc (.tmp t) sb (sub c [0]) (sub c [1]):=by
 unfold Cj at h
 split at h
 · rename_i g sb a b
   simp only[Bool.and_eq_true] at h
   obtain⟨aa,ad⟩:=h
   obtain rfl:=Nat.eq_of_beq_eq_true aa
   exact⟨sb,eq_of_beq ad,by simp[sub]⟩
 · cases h
theorem W.range{f:Operand}{ps:Array Nat}{as b6:Code}{Γ:Env}{Q:bu->aL->List bA->bt->J->Prop}{r:aL}{d:List bA}{q:bt}{h:J}{g:Nat}{aF:List I}
  (hf:l_ 0 [] Γ (cw P need [] f)=some (.fn g [] aF))(hm:Mod r Γ)
  (ag:∃e ak,jV (h.n+1) r (.collected h.n::d) q (call (.fn g) (.bQ (h.n+1)::aF) ((h.push (.defrd (some []))).push (.loop .ready none need r ps.toList as b6 h.n)))=.ok e r (.collected h.n::d) q ak/\Q e r (.collected h.n::d) q ak):
  W P need none call (.rangeFunc f ps as b6) Q r d q h:=by
 obtain⟨e,ak,c1,c2⟩:=ag
 refine⟨e,r,_,q,ak,?_,c2⟩
 have aj:=r8 hm hf
 rw[<-c1]
 simp only[da,u7,aj,q_,mE]
 rfl
theorem WF.range{p:List Nat}{t:Nat}{ps:List Nat}{Γ:Env}{Q:bu->aL->List bA->bt->J->Prop}{r:aL}{d:List bA}{q:bt}{h:J}{g:Nat}{aF:List I}(hs:Cj (.tmp t) ps (sub (fm fn) p)=true)
  (aG:Nat.testBit (dx fn) t=true)(hf:eX t Γ=some (.fn g [] aF))(hm:Mod r Γ)
  (ag:∃e ak,jV (h.n+1) r (.collected h.n::d) q (call (.fn g) (.bQ (h.n+1)::aF) ((h.push (.defrd (some []))).push (.loop .ready none (dx fn) r ps (sub (fm fn) (p++[0])) (sub (fm fn) (p++[1])) h.n)))=.ok e r (.collected h.n::d) q ak/\Q e r (.collected h.n::d) q ak):
  WF P fn none call p Q r d q h:=by
 obtain⟨sb,bh,he⟩:=Pf hs
 unfold WF
 rw[jr,jr] at ag
 rw[he]
 subst bh
 refine W.range (Γ:=Γ) ?_ hm ag
 have:cw P (dx fn) [] (.tmp t)=.jS (fV t):=by
  unfold cw
  simp only[hd,aG]
 rw[this]
 show eX (fV t).num Γ=_
 rw[xQ];exact hf
theorem Hn{intr:Nat->List I->J->Option (I×J)}{f:Nat}{n:Nat}{args:List I}{h:J}{X:av}(hf:P.funcs[f]? =some fn)(af:fn.body.isSome=true)(ae:intr f args h=none)(hle:Nat.ble args.length fn.ntmps=true)
  (hw:WF P fn none (e4 P intr n) [] (λe r d q ak=>k9 P (e4 P intr n) fn (.ok e r d q ak)=X) (mG 0 args .leaf) [] .none h):e4 P intr (n+1) (.fn f) args h=X:=by
 obtain⟨c,ag⟩:=Option.isSome_iff_exists.1 af
 have sa:fm fn=c:=by simp[fm,ag]
 obtain⟨e,r,d,q,ak,aa,ad⟩:=hw
 rw[sa] at aa
 simp only[sub] at aa
 simp only[e4,ae,pP,hf,ag,k8,hle,aa,ad]
end
end aw
namespace aw
open Go
theorem o5:∀l:List UInt8,(cD l).length=l.length
 |[]=>rfl
 |a::l=>by simp[cD,o5 l]
theorem y4:∀l m:List UInt8,cD (l++m)=cD l++cD m
 |[],m=>rfl
 |a::l,m=>by simp[cD,y4 l m]
theorem y5:∀l:List UInt8,(cD l).all I.bC=true
 |[]=>rfl
 |a::l=>by rw[cD,List.all_cons,y5 l];rfl
theorem Ck:∀l:List UInt8,lQ (cD l)=some l
 |[]=>rfl
 |a::l=>by
  have aa:Nat.blt a.toNat 256=true:=by have:=UInt8.toNat_lt a;simp[Nat.blt];omega
  simp only[cD,lQ,Ck l,aa,UInt8.ofNat_toNat]
theorem tR:∀(xs ys:List I),xs.all I.bC=true->xs.length<=ys.length->eB 0 xs ys=some (xs++ys.drop xs.length)
 |[],ys,_,_=>by cases ys<;>simp[eB]
 |x::xs,[],_,h=>by simp at h
 |x::xs,y::ys,ab,h=>by
  simp only[List.all_cons,Bool.and_eq_true] at ab
  have bg:=tR xs ys ab.2 (by simpa using h)
  simp[eB,ab.1,bg]
theorem wk:∀(l xs ys:List I),xs.all I.bC=true->xs.length<=ys.length->eB l.length xs (l++ys)=some (l++(xs++ys.drop xs.length))
 |[],xs,ys,ab,h=>by simpa using tR xs ys ab h
 |a::l,[],ys,ab,h=>by simp[eB]
 |a::l,x::xs,ys,ab,h=>by
  have bg:=wk l (x::xs) ys ab h
  simp only[List.length_cons,List.cons_append,eB] at bg⊢
  rw[bg]
theorem wm{i j:Nat}(h:i+j<9223372036854775808):arith BinOp.add IntKind.i64 (Int.ofNat i) (Int.ofNat j)=some (I.int IntKind.i64 (Int.ofNat (i+j))):=by
 have h:=rk (i+j) h
 have e:Int.ofNat i+Int.ofNat j=((i+j:Nat):Int):=rfl
 simp only[arith,e,h];rfl
theorem tS{i j:Nat}(aD:j<=i)(h:i<9223372036854775808):arith BinOp.sub IntKind.i64 (Int.ofNat i) (Int.ofNat j)=some (I.int IntKind.i64 (Int.ofNat (i-j))):=by
 have h:=rk (i-j) (by omega)
 have e:Int.ofNat i-Int.ofNat j=((i-j:Nat):Int):=by
  have aC:Int.ofNat i=(i:Int):=rfl
  have ax:Int.ofNat j=(j:Int):=rfl
  rw[aC,ax];omega
 simp only[arith,e,h];rfl
theorem Cl{i j:Nat}(h:i*j<9223372036854775808):arith BinOp.mul IntKind.i64 (Int.ofNat i) (Int.ofNat j)=some (I.int IntKind.i64 (Int.ofNat (i*j))):=by
 have h:=rk (i*j) h
 have e:Int.ofNat i*Int.ofNat j=((i*j:Nat):Int):=rfl
 simp only[arith,e,h];rfl
theorem o6{a b:Nat}(h:a<=b):fh (Int.ofNat a) (Int.ofNat b)=true:=by simp[fh];omega
theorem y6{a b:Nat}(h:¬a<=b):fh (Int.ofNat a) (Int.ofNat b)=false:=by simp[fh];omega
def sc(B e:Nat)(h:J)(v:I)(w:List UInt8):Prop:=
 (v=.a0/\w=[])\/∃c rest,v=.slice c 0 w.length (.aN 1)/\h.get c=some (.cells (cD w++rest) e .aN 0 0)/\B<=c/\c<h.n
theorem sc.ext{B e:Nat}{h ak:J}{v:I}{w:List UInt8}(af:sc B e h v w)(aG:h.n<=ak.n)(aj:∀c,B<=c->c<h.n->ak.get c=h.get c):sc B e ak v w:=by
 rcases af with aa|⟨c,rest,aa,ad,ar,aM⟩
 · exact .inl aa
 · exact .inr ⟨c,rest,aa,(aj c ar aM).trans ad,ar,by omega⟩
section
variable {P:Program}
theorem Pg{B:Nat}{h:J}{v:I}{w s:List UInt8}{sT e:TypeId}{xT:Option TypeId}{i:TypeInfo}{z:I}(bM:B<=h.n)(hu:P.underlying sT=some (.slice e))(fM:ny P xT=true)(ae:P.info? e=some i)(br:i.size=1)(aT:dN P e=some z)(hO:z.cells.length=1)
  (rn:ks (w.length+s.length) i.bytes=true)(ai:sc B e h v w):
  ∃v' ak,fW P h sT xT v (.str s)=some (v',ak)/\sc B e ak v' (w++s)/\Ext B h ak:=by
 have gu:ho h 1 (.str s)=some (s.length,cD s):=rfl
 have Ho:Nat.beq z.cells.length 1=true:=by rw[hO];rfl
 rcases ai with⟨rfl,rfl⟩|⟨c,rest,rfl,aj,wo,qw⟩
 · cases s with
   |nil=>exact⟨.a0,h,by simp only[fW,hu,fM,ae,aT,br];rfl,.inl ⟨rfl,rfl⟩,Ext.refl _ _⟩
   |cons a s=>
    have Ph:ks (a::s).length i.bytes=true:=by simpa using rn
    have fG:=wj (h:=h) (e:=e) (fz:=0) Ph Ho (y5 (a::s))
    refine⟨.slice h.n 0 (a::s).length (.aN 1),h.push (.cells (cD (a::s)) e .aN 0 0),?_,.inr ⟨h.n,[],by simp,by rw[J.ec,if_pos rfl];simp,bM,by simp⟩,Ext.push bM _⟩
    rw[<-fG]
    simp only[fW,hu,fM,ae,aT,br,gu]
    rfl
 · cases s with
   |nil=>exact⟨.slice c 0 w.length (.aN 1),h,by simp only[fW,hu,fM,ae,aT,br];rfl,.inr ⟨c,rest,by simp,by simpa using aj,wo,qw⟩,Ext.refl _ _⟩
   |cons a s=>
    have Hp:(Nat.beq 1 1&&Nat.blt 0 1)=true:=rfl
    by_cases p3:(a::s).length<=rest.length
    · have o7:Nat.ble (0+(w.length+(a::s).length)*1) (cD w++rest).length=true:=by
        simp only[Nat.ble_eq,List.length_append,o5];omega
      have a6:=wk (cD w) (cD (a::s)) rest (y5 _) (by rw[o5];exact p3)
      have hw:im .aN 0 0 (0+w.length*1) (cD (a::s)).length=true:=by unfold im;simp
      have qk:eB (0+w.length*1) (cD (a::s)) (cD w++rest)=some (cD w++(cD (a::s)++rest.drop (cD (a::s)).length)):=by
       rw[<-a6,o5];simp
      refine⟨.slice c 0 (w.length+(a::s).length) (.aN 1),h.set c (some (.cells (cD w++(cD (a::s)++rest.drop (cD (a::s)).length)) e .aN 0 0)),?_,.inr ⟨c,rest.drop (cD (a::s)).length,by simp,by rw[J.bL,if_pos rfl,y4];simp,wo,by simpa using qw⟩,Ext.set wo _⟩
      simp only[fW,hu,fM,ae,aT,br,gu]
      simp only[Hp,List.length_cons,aj]
      simp only[List.length_cons] at o7 qk hw
      simp only[o7,aw.storeCells,aj,hw,qk]
    · have o7:Nat.ble (0+(w.length+(a::s).length)*1) (cD w++rest).length=false:=by
        cases af:Nat.ble (0+(w.length+(a::s).length)*1) (cD w++rest).length with
        |false=>rfl
        |true=>simp only[Nat.ble_eq,List.length_append,o5] at af;omega
      have an:loadCells h c 0 (w.length*1)=some (cD w):=by
       have:=y1 (xs:=cD w) aj
       rw[o5] at this;simpa using this
      have eO:(cD w++cD (a::s)).all I.bC=true:=by rw[<-y4];exact y5 _
      have Pj:(Nat.ble 0 (0+w.length*1)&&Nat.beq e e)=true:=by simp
      have fG:=wj (h:=h.set c none) (e:=e) (fz:=0-0) rn Ho eO
      refine⟨.slice (h.set c none).n 0 (w.length+(a::s).length) (.aN 1),(h.set c none).push (.cells (cD w++cD (a::s)) e .aN 0 0),?_,.inr ⟨(h.set c none).n,[],by simp,by rw[J.ec,if_pos rfl,y4];simp,by simp;omega,by simp⟩,
       (Ext.set wo none).trans (Nat.le_refl _) (Ext.push (by simp;omega) _)⟩
      simp only[List.length_cons] at o7 fG
      simp only[fW,hu,fM,ae,aT,br,gu]
      simp only[Hp,List.length_cons,aj]
      simp only[o7,an,Pj,fG]
theorem Pk{h:J}{pT u:TypeId}{c e:Nat}{w:List UInt8}{rest:List I}(hw:w≠[])(an:w.length<=100000000000)(hu:P.underlying pT=some (.pointer u))(he:P.underlyingId e=P.underlyingId u)(hs:cV P e=some 1)(aj:h.get c=some (.cells (cD w++rest) e .aN 0 0)):
  oB P h pT (.ptr c 0) (.int .i64 (Int.ofNat w.length))=some (.str w,h.set c (some (.cells (cD w++rest) e .fz 0 0))):=by
 have aG:w.length≠0:=by cases w<;>simp at hw⊢
 have aQ:takeN w.length (g0 0 (cD w++rest))=some (cD w):=by
  have:=y0 (cD w) rest
  rw[o5] at this;exact this
 have hle:Nat.ble w.length 281474976710656=true:=by simp;omega
 simp only[oB,e2,if_neg aG,hu,aj,he,hs,hle,aQ,Ck]
 simp
end
end aw
namespace aw
open Go
section
variable {D:Type}
variable {enc:D->List I} {w:Nat}
theorem Pl:∀(l m:List I) (n:Nat),l.length=n->takeN n (l++m)=some l
 |l,m,n,h=>by subst h;exact y0 l m
theorem Hq:∀(l m:List I),g0 l.length (l++m)=m
 |[],m=>by cases m<;>rfl
 |a::l,m=>by simp[g0,Hq l m]
end
end aw
namespace aw
open Go
theorem Cm(n:Nat)(h:n<18446744073709551616):IntKind.wrap .u64 (n:Int)=(n:Int):=by
 have e:((n:Int) %18446744073709551616)=n:=by omega
 have ax:(2:Int)^64=18446744073709551616:=by rfl
 simp only[IntKind.wrap,IntKind.bits,IntKind.signed,ax,e,Bool.false_and,if_neg Bool.false_ne_true]
theorem wrap_u8(n:Nat):IntKind.wrap .u8 (n:Int)=((n %256:Nat):Int):=by
 have ax:(2:Int)^8=256:=by rfl
 simp only[IntKind.wrap,IntKind.bits,IntKind.signed,ax,Bool.false_and,if_neg Bool.false_ne_true]
 omega
theorem Pm{i j:Nat}(h:i+j<18446744073709551616):arith BinOp.add IntKind.u64 (Int.ofNat i) (Int.ofNat j)=some (I.int IntKind.u64 (Int.ofNat (i+j))):=by
 have h:=Cm (i+j) h
 have e:Int.ofNat i+Int.ofNat j=((i+j:Nat):Int):=rfl
 simp only[arith,e,h];rfl
theorem Hr{i j:Nat}(aD:j<=i)(h:i<18446744073709551616):arith BinOp.sub IntKind.u64 (Int.ofNat i) (Int.ofNat j)=some (I.int IntKind.u64 (Int.ofNat (i-j))):=by
 have h:=Cm (i-j) (by omega)
 have e:Int.ofNat i-Int.ofNat j=((i-j:Nat):Int):=by
  have aC:Int.ofNat i=(i:Int):=rfl
  have ax:Int.ofNat j=(j:Int):=rfl
  rw[aC,ax];omega
 simp only[arith,e,h];rfl
theorem Pn{i j:Nat}:arith BinOp.add IntKind.u8 (Int.ofNat i) (Int.ofNat j)=some (I.int IntKind.u8 (Int.ofNat ((i+j) %256))):=by
 have h:=wrap_u8 (i+j)
 have e:Int.ofNat i+Int.ofNat j=((i+j:Nat):Int):=rfl
 simp only[arith,e,h];rfl
theorem Hs(k:IntKind){i j:Nat}(aD:j<=k.bits):nx BinOp.shr k (Int.ofNat i) (Int.ofNat j)=some (I.int k (Int.ofNat (i/2^j))):=by
 have aG:¬(Int.ofNat j<0):=by
  have aC:Int.ofNat j=(j:Int):=rfl
  rw[aC];omega
 have aC:(Int.ofNat j).toNat=j:=rfl
 have ax:min j k.bits=j:=by omega
 have bp:(Int.ofNat i).fdiv (2^j)=((i/2^j:Nat):Int):=by
  have:(2:Int)^j=((2^j:Nat):Int):=by norm_cast
  rw[this]
  show((i:Int)).fdiv ((2^j:Nat):Int)=_
  rw[Int.fdiv_eq_ediv_of_nonneg _ (Int.natCast_nonneg _)]
  rfl
 simp only[nx,if_neg aG,aC,ax,bp];rfl
theorem Ht{P:Program}{call:aP->List I->J->av}{l need t dD:Nat}{Γ fK g6:Env}{as b6:Code}{v:I}{h aa ad:J}{q a3:bt}{e:bu}{r:aL}
  (aj:h.get l=some (.loop .ready none need r [t] as b6 dD))(hm:Mod r Γ)
  (aX:cW P need (some l) call as ⟨put t v Γ,[],.none,h⟩ .nrm ⟨fK,[],q,aa⟩)(fG:aa.get l=some (.loop .ready none need r [t] as b6 dD))
  (af:cW P need (some l) call b6 ⟨fK,[],.none,aa.set l (some (.loop .busy none need r [t] as b6 dD))⟩ e ⟨g6,[],a3,ad⟩)
  (aq:ad.get l=some (.loop .busy none need r [t] as b6 dD)):
  nD P call l [v] h=Hl l e need r [t] as b6 dD ad:=by
 obtain⟨r1,aC,cm⟩:=aX _ (hm.put t v)
 obtain⟨r2,ax,fY⟩:=af _ cm
 simp only at aC ax
 simp only[nD,aj,rb,aC,xM,fG,ax]
 simp only[tj,aq]
 cases e<;>rfl
section
variable {P:Program}
theorem y7{a b:TypeId}{ka k dH:IntKind}{n:Int}{h:J}(aX:P.underlying a=some (.int ka))(af:P.underlying b=some (.int dH)){m:Int}(hm:dH.wrap n=m):fp P a b (.int k n) h=.val (.int dH m) h:=by
 simp only[fp,aX,af,hm]
theorem Po{a b e:TypeId}{h:J}{c:Nat}{cap:cf}{w:List UInt8}{rest:List I}{el a9 up:Nat}{k:fB}(aX:P.underlying a=some (.slice e))(he:P.underlying e=some (.int .u8))(af:P.underlying b=some .string)(nJ:cap=.exact w.length\/cap=.aN 1)
  (aj:h.get c=some (.cells (cD w++rest) el k a9 up)):fp P a b (.slice c 0 w.length cap) h=.val (.str w) h:=by
 have an:loadCells h c 0 w.length=some (cD w):=by
  have:=y1 (xs:=cD w) aj
  rwa [o5] at this
 rcases nJ with rfl|rfl<;>simp only[fp,aX,he,af,an,Ck]
theorem Hu:∀(n:Nat) (z:I),ej n [z]=List.replicate n z
 |0,z=>rfl
 |n+1,z=>by rw[ej,Hu n z,List.singleton_append,List.replicate_succ]
theorem Pp{h:J}{t e:TypeId}{n:Nat}{i:TypeInfo}(hu:P.underlying t=some (.slice e))(ae:P.info? e=some i)(br:i.size=1)(l9:i.bytes=1)(aT:dN P e=some (.int .u8 (Int.ofNat 0)))(aG:0<n)(hle:n<=1000000):
  tK P h t (.int .i64 (Int.ofNat n)) (.int .i64 (Int.ofNat n))=some (.slice h.n 0 n (.exact n),h.push (.cells (List.replicate n (.int .u8 (Int.ofNat 0))) e .own 0 0)):=by
 have aa:(decide (n<=n)&&Nat.ble (n*(i.bytes+1)) 1099511627776&&Nat.beq (I.cells (.int .u8 (Int.ofNat 0))).length i.size)=true:=by
  rw[l9,br]
  have:n*(1+1)<=1099511627776:=by omega
  simp[I.cells,this]
 have ad:¬(n*i.size=0):=by rw[br];omega
 have ar:(List.replicate n (I.int .u8 (Int.ofNat 0))).all I.bC=true:=by
  simp[List.all_replicate,I.bC]
 have aM:ej n (I.cells (.int .u8 (Int.ofNat 0)))=List.replicate n (I.int .u8 (Int.ofNat 0)):=Hu n _
 unfold tK
 simp only[hu,e2,ae,aT,aa,if_true,if_neg ad,aM,newRow,ar]
end
end aw
namespace aw
open Go
theorem Cn{a b:Nat}(h:a=b):cU (Int.ofNat a) (Int.ofNat b)=true:=by subst h;simp[cU]
theorem y8{a b:Nat}(h:¬a=b):cU (Int.ofNat a) (Int.ofNat b)=false:=by
 cases ab:cU (Int.ofNat a) (Int.ofNat b) with
 |false=>rfl
 |true=>simp[cU] at ab;omega
theorem Pq(m l:Nat):im .own 0 0 m l=true:=by unfold im;simp
theorem wq(m l:Nat):im .aN 0 0 m l=true:=by unfold im;simp
theorem Hv{h:J}{b el:Nat}{k:fB}{l r:List I}{x y:I}(aq:k=.own\/k=.aN)(aj:h.get b=some (.cells (l++y::r) el k 0 0)){off:Nat}(a2:off=l.length)(ab:x.bC=true):
  aw.storeCells h b off [x]=some (h.set b (some (.cells (l++x::r) el k 0 0))):=by
 subst a2
 have a6:=Hk l [] x y r ab
 rcases aq with rfl|rfl
 · have hw:=Pq l.length [x].length
   simp only[aw.storeCells,aj,hw,a6]
 · have hw:=wq l.length [x].length
   simp only[aw.storeCells,aj,hw,a6]
structure ep(p B:Nat)(h ak:J):Prop where
 n:h.n<=ak.n
 get:∀b,b<B->b≠p->ak.get b=h.get b
theorem Ext.mb{B:Nat}{h ak:J}(e:Ext B h ak)(p:Nat):ep p B h ak:=⟨e.n,λb af _=>e.get b af⟩
theorem ep.refl(p B:Nat)(h:J):ep p B h h:=⟨Nat.le_refl _,λ_ _ _=>rfl⟩
theorem ep.trans{p B kN:Nat}{h aa ad:J}(bM:B<=kN)(e:ep p B h aa)(cx:ep p kN aa ad):ep p B h ad:=⟨Nat.le_trans e.n cx.n,λb af a6=>(cx.get b (Nat.lt_of_lt_of_le af bM) a6).trans (e.get b af a6)⟩
theorem ep.set{p B:Nat}{h:J}(o:Option ca):ep p B h (h.set p o):=⟨by simp,λc _ a6=>by rw[J.bL,if_neg a6]⟩
theorem ep.Pr{p B:Nat}{h ak:J}(e:ep p B h ak)(a6:B<=p):Ext B h ak:=⟨e.n,λb af=>e.get b af (by omega)⟩
theorem ep.le{p B kN:Nat}{h ak:J}(e:ep p kN h ak)(bM:B<=kN):ep p B h ak:=⟨e.n,λb af=>e.get b (by omega)⟩
theorem Ext.le{B kN:Nat}{h ak:J}(e:Ext kN h ak)(bM:B<=kN):Ext B h ak:=⟨e.n,λb af=>e.get b (by omega)⟩
end aw
namespace aw
open Go
theorem eZ{h:J}{o:ca}{b:Nat}(af:b=h.n):(h.push o).get b=some o:=by subst af;rw[J.ec,if_pos rfl]
theorem sd{h:J}{o:ca}{b:Nat}{x:Option ca}(af:b<h.n)(ab:h.get b=x):(h.push o).get b=x:=by rw[J.ec,if_neg (by omega)];exact ab
theorem h_{h:J}{o:ca}{b c:Nat}(af:b=c):(h.set c (some o)).get b=some o:=by subst af;rw[J.bL,if_pos rfl]
theorem o8{h:J}{b c:Nat}{o x:Option ca}(af:¬b=c)(ab:h.get b=x):(h.set c o).get b=x:=by rw[J.bL,if_neg af];exact ab
theorem tT{h:J}{k b:Nat}{x:Option ca}(ab:h.get b=x):(h.room k).get b=x:=ab
theorem ba{h:J}{b off:Nat}{cs:List I}{e a9 up:Nat}{k:fB}{v:I}(aj:h.get b=some (.cells cs e k a9 up))(aG:nth off cs=some v):ay h b off=some v:=by simp only[ay,aj,aG]
theorem n1{h:J}{b off m:Nat}{cs vs:List I}{e a9 up:Nat}{k:fB}(aj:h.get b=some (.cells cs e k a9 up))(aG:takeN m (g0 off cs)=some vs):aw.loadCells h b off m=some vs:=by simp only[aw.loadCells,aj,aG]
theorem ia{h:J}{b off:Nat}{xs cs bH:List I}{e a9 up:Nat}{k:fB}(aj:h.get b=some (.cells cs e k a9 up))(hw:im k a9 up off xs.length=true)(a6:eB off xs cs=some bH):aw.storeCells h b off xs=some (h.set b (some (.cells bH e k a9 up))):=by simp only[aw.storeCells,aj,hw,a6]
theorem Ext.gK{B b:Nat}{h g:J}{o:Option ca}(af:B<=b)(e:Ext B h g):Ext B h (g.set b o):=e.trans (Nat.le_refl _) (Ext.set af _)
theorem Ext.lp{B:Nat}{h g:J}{o:ca}(bM:B<=g.n)(e:Ext B h g):Ext B h (g.push o):=e.trans (Nat.le_refl _) (Ext.push bM _)
theorem Ext.hC{B k:Nat}{h g:J}(e:Ext B h g):Ext B h (g.room k):=⟨Nat.le_trans e.n (Nat.le_add_right _ _),e.get⟩
theorem tU(a:List UInt8):bR a a=true:=by
 induction a with
 |nil=>rfl
 |cons x l bg=>simp[bR,bg]
theorem mc(a b:Int):gP hp (.int .i64 a) [.int .i64 b]=some (.int .i64 (min a b)):=by
 simp only[gP,hp,if_true]
 by_cases h:b<a
 · have an:et b a=true:=by simp[et];omega
   rw[if_pos an,Int.min_eq_right (by omega)]
 · have an:¬et b a=true:=by simp[et];omega
   rw[if_neg an,Int.min_eq_left (by omega)]
end aw
