/-
  PROVED HERE: symbolic runs of the evaluator, and that they are sound (Sxa). No condition beside each statement's own.
-/
import Derived.Test.YtfooahfebojldaaGreatDoorAed
set_option linter.unusedVariables false
set_option linter.unusedSimpArgs false
namespace aB
open Go
abbrev Env:=List (Nat×I)
def eQ(t:Nat):Env->Option I
 |[]=>none
 |(u,v)::l=>match Nat.beq t u with
  |true=>some v
  |false=>eQ t l
def del(t:Nat):Env->Env
 |[]=>[]
 |(u,v)::l=>match Nat.beq t u with
  |true=>del t l
  |false=>(u,v)::del t l
def put(t:Nat)(v:I)(Γ:Env):Env:=(t,v)::del t Γ
def l2(Γ:Env):List Nat->Env
 |[]=>[]
 |t::l=>match eQ t Γ with
  |some v=>(t,v)::l2 Γ l
  |none=>l2 Γ l
def Mod(r:aR)(Γ:Env):Prop:=∀t v,eQ t Γ=some v->r.get (gw t)=v
structure ah where
 Γ:Env
 d:List bP
 q:bE
 h:J
inductive Hint where
 |v (v:I)
 |h3 (v:I) (h:J)
 |c (v:I) (h:J)
 |p (v:I) (h:J)
 |b (b:Bool)
 |loop (e:bw) (st:ah)
 |Pe (v:I) (o:cp)
 |o (v:I)
 |Pf
def dX:List Prop->Prop
 |[]=>True
 |p::l=>p/\dX l
theorem dX.cons{p:Prop}{l:List Prop}(h:p)(t:dX l):dX (p::l):=⟨h,t⟩
theorem dX.nil:dX []:=trivial
theorem dX.append:∀{l m:List Prop},dX (l++m)->dX l/\dX m
 |[],m,h=>⟨trivial,h⟩
 |p::l,m,h=>⟨⟨h.1,(dX.append h.2).1⟩,(dX.append h.2).2⟩
def mT(m:Nat)(env:List I)(Γ:Env):Acc->Option I
 |.env j=>nth (m-1-j) env
 |.reg p=>eQ p.num Γ
 |.val v=>some v
def Cc(o:Oper)(g:Operand->I):Nat:=match o.op with
 |.load .. |.slice .. |.index .. |.indexAddr .. |.lookup .. |.entry .. =>1
 |.binOp op _ x y _=>match op,g x,g y with
  |.eql,.int _ _,.int _ _|.neq,.int _ _,.int _ _|.lss,.int _ _,.int _ _|.leq,.int _ _,.int _ _|.gtr,.int _ _,.int _ _|.geq,.int _ _,.int _ _=>0
  |.eql,.str _,.str _|.neq,.str _,.str _|.lss,.str _,.str _|.leq,.str _,.str _|.gtr,.str _,.str _|.geq,.str _,.str _=>0
  |_,_,_=>1
 |.unOp op _ _=>match op with
  |.not=>0
  |_=>1
 |.convert _ _ x=>match g x with
  |.str _=>2
  |_=>1
 |.range _ x=>match g x with
  |.map _=>2
  |_=>0
 |.store .. |.mapUpdate .. |.mapEntry .. |.entryStore .. |.insert .. |.next .. |.makeSlice .. =>2
 |.call c=>match c.callee with
  |.builtin b=>match b with
   |.len=>match c.args.toList.map g with
    |[.map _]=>1
    |_=>0
   |.cap|.min|.max|.unsafeSliceData=>1
   |.append|.copy|.clear|.delete|.unsafeString=>2
   |_=>0
  |_=>0
 |_=>0
def ga(n:Nat)(s:List UInt8):Option I:=match nth n s with
 |some b=>some (.int .u8 (Int.ofNat b.toNat))
 |none=>none
def ny(P:Program)(o:Oper)(g:Operand->I)(h:J)(v:I):Prop:=match o.op with
 |.load t a=>match g a,nd P t,dd P t with
  |.ptr b off,some false,some _=>au h b off=some v
  |.ptr b off,some true,some n=>match v with
   |.agg cs=>loadCells h b off n=some cs
   |_=>False
  |_,_,_=>False
 |.binOp op t x y _=>match g x,g y with
  |.int k a,.int ff b=>match op with
   |.shl=>mw .shl k a b=some v
   |.shr=>mw .shr k a b=some v
   |op=>match decide (k=ff) with
    |true=>arith op k a b=some v
    |false=>False
  |.str a,.str b=>eA op a b=some v
  |a,b=>ej P h op t x y a b=some v
 |.slice t x bk ae mx=>e1 P h t (g x) (bk.map g) (ae.map g) (mx.map g)=some v
 |.index t x i=>match P.underlying t,g x,fo (g i) with
  |some .string,.str s,some n=>ga n s=some v
  |some (.array m e),.agg cs,some n=>match dd P e with
   |some sz=>n<m/\kx P e cs (n*sz)=some v
   |none=>False
  |_,_,_=>False
 |.indexAddr t x i=>match P.underlying t,g x,fo (g i) with
  |some (.array m e),.ptr b off,some n=>match dd P e with
   |some sz=>n<m/\v=.ptr b (off+n*sz)
   |none=>False
  |some (.slice e),.slice b off m c,some n=>match dd P e with
   |some sz=>n<m/\v=.ptr b (off+n*sz)
   |none=>False
  |_,_,_=>False
 |.lookup t x i ok=>x0 P h t (g x) (g i) ok=some v
 |.entry it=>x6 h (g it)=some v
 |.unOp op _ x=>match op,g x with
  |.neg,.int k n=>v=.int k (k.wrap (0-n))
  |.xor,.int k n=>arith .xor k (if k.signed then-1 else k.max) n=some v
  |_,_=>False
 |.convert src dst x=>et P src dst (g x) h=.val v h
 |.call c=>match c.callee,c.args.toList.map g,c.argTypes[0]? with
  |.builtin .len,[x],some t=>bO P h t x=some v
  |.builtin .cap,[x],some t=>xV P t x=some v
  |.builtin .min,x::l,_=>hM ir x l=some v
  |.builtin .max,x::l,_=>hM vd x l=some v
  |.builtin .unsafeSliceData,[x],some t=>hP P .unsafeSliceData #[t] [x] h=.val v h
  |_,_,_=>False
 |_=>False
def tX(P:Program)(h:J)(t:TypeId)(l c:I):Option (I×J):=match P.underlying t,fo l,fo c with
 |some (.slice e),some l,some c=>match P.info? e,ea P e with
  |some i,some z=>if l<=c&&Nat.ble (c*(i.bytes+1)) 1099511627776&&Nat.beq z.cells.length i.size then(match newRow h e (if c*i.size=0 then[] else eD c z.cells) with
   |some (b,an)=>some (.slice b 0 l (.exact c),an)
   |none=>none) else none
  |_,_=>none
 |_,_,_=>none
def Hj(h:J):I->Option (I×J)
 |.map m=>match h.get m with
  |some (.map _ c)=>some (.ptr h.n 0,h.push (.mapIter (some m) c [] c))
  |_=>none
 |_=>none
def tY(P:Program)(o:Oper)(g:Operand->I)(h:J)(v:I)(an:J):Prop:=match o.op with
 |.store t a x=>match g a with
  |.ptr b off=>dd P t=some (g x).cells.length/\storeCells h b off (g x).cells=some an/\v=.aP []
  |_=>False
 |.convert src dst x=>et P src dst (g x) h=.val v an
 |.mapUpdate t m k x=>ts P h t (g m) (g k) (g x)=some an/\v=.aP []
 |.insert t m k x=>ts P h t (g m) (g k) (g x)=some an/\v=.aP []
 |.mapEntry t m k=>x1 P h t (g m) (g k)=some (v,an)
 |.entryStore t m s x=>x2 h (g m) (g s) (g x)=some an/\v=.aP []
 |.next it isStr=>x4 h (g it) isStr=some (v,an)
 |.range t x=>match P.underlying t with
  |some (.map _ _)=>Hj h (g x)=some (v,an)
  |_=>False
 |.makeSlice t l c=>tX P h t (g l) (g c)=some (v,an)
 |.call c=>match c.callee,c.args.toList.map g,c.argTypes[0]? with
  |.builtin .append,[x,y],some t=>gx P h t c.argTypes[1]? x y=some (v,an)
  |.builtin .copy,[x,y],some t=>xW P h t x y=some (v,an)
  |.builtin .clear,[x],some t=>n0 P h t x=some (v,an)
  |.builtin .delete,[x,y],some t=>x3 P h t x y=some (v,an)
  |.builtin .unsafeString,[x,y],some t=>oS P h t x y=some (v,an)
  |_,_,_=>False
 |_=>False
inductive l3 where
 |ok (v:I) (d:List bP) (q:bE) (h:J)
 |b1 (v:I) (d:List bP) (q:bE) (h:J)
def l3.res:l3->vk
 |.ok v d q h=>.ok v d q h
 |.b1 v d q h=>.b1 v d q h
inductive kg(α:Type 1) where
 |cF (a:α)
 |stop (ia:String) (x:Option Bool)
structure gE(α:Type):Type 1 where
 res:α
 cs:List Prop
 hs:List Hint
structure Pg(l:List I):Prop where
 h:l.all I.b0=true
def y7(call:aF->List I->J->ao)(pos:String)(f:aF)(args:List I)(d:List bP)(q:bE)(h:J):List Hint->kg (gE l3)
 |.c v an::hs=>.cF ⟨.ok v d q an,[call f args h=.ret v an],hs⟩
 |.p v an::hs=>.cF ⟨.b1 v d q an,[call f args h=.b1 v an],hs⟩
 |_=>.stop ("call " ++pos) none
def Ph(P:Program)(o:Oper):Bool:=match o.op with
 |.call c=>match c.callee with
  |.builtin b=>match b with
   |.len=>true
   |_=>false
  |_=>false
 |.binOp op t _ _ _=>match op with
  |.eql|.neq=>match P.underlying t with
   |some (.int _)=>false
   |some .string=>false
   |some .bool=>false
   |some _=>true
   |none=>false
  |_=>false
 |_=>false
def Pj(P:Program)(o:Oper):List Hint->Option (I×List Hint)
 |.o v::hs=>match Ph P o with
  |true=>some (v,hs)
  |false=>none
 |_=>none
def Hk(o:Oper):List Hint->Option (TypeId×Operand×List Hint)
 |.Pf::hs=>match o.op with
  |.box e x=>some (e,x,hs)
  |_=>none
 |_=>none
def Cd(P:Program)(inR:Bool)(call:aF->List I->J->ao)(o:Oper)(g:Operand->I)(d:List bP)(q:bE)(h:J)(hs:List Hint):kg (gE l3):=
 match Pj P o hs with
 |some (v,hs)=>.cF ⟨.ok v d q h,[ny P o g h v],hs⟩
 |none=>match Hk o hs with
  |some (e,x,hs)=>.cF ⟨.ok (.ptr h.n 0) d q (h.push (.cells (g x).cells e .own 0 0)),[Pg (g x).cells],hs⟩
  |none=>match Cc o g with
   |0=>match cA P o g h with
    |.val v an=>.cF ⟨.ok v d q an,[],hs⟩
    |.b1 v an=>.cF ⟨.b1 v d q an,[],hs⟩
    |.call f args an=>y7 call o.pos (.fn f) args d q an hs
    |.b8 l args an=>y7 call o.pos (.b8 l) args d q an hs
    |.jn x=>match inR with
     |true=>.stop "defer" none
     |false=>.cF ⟨.ok (.aP []) (x::d) q h,[],hs⟩
    |.ry=>match inR with
     |true=>.stop "recover" none
     |false=>match q with
      |.none=>.cF ⟨.ok .ew d .none h,[],hs⟩
      |.done v=>.cF ⟨.ok .ew d (.done v) h,[],hs⟩
      |.act v=>.cF ⟨.ok v d (.done v) h,[],hs⟩
    |.fail w=>.stop (w++ " " ++o.pos) none
   |1=>match hs with
    |.v v::hs=>.cF ⟨.ok v d q h,[ny P o g h v],hs⟩
    |_=>.stop ("value " ++o.pos) none
   |_=>match hs with
    |.h3 v an::hs=>.cF ⟨.ok v d q an,[tY P o g h v an],hs⟩
    |_=>.stop ("value and memory " ++o.pos) none
def Ce(o:Oper)(g:Operand->I)(d:List bP)(q:bE)(h:J)(hs:List Hint):Option (kg (gE l3)):=match o.op with
 |.pick c a b=>match g c with
  |.bool x=>match hs with
   |.b true::hs=>some (.cF ⟨.ok (g a) d q h,[x=true],hs⟩)
   |.b false::hs=>some (.cF ⟨.ok (g b) d q h,[x=false],hs⟩)
   |_=>some (.stop ("pick " ++o.pos) (some x))
  |_=>some (.stop ("pick of what " ++o.pos) none)
 |_=>none
def y8(P:Program)(inR:Bool)(call:aF->List I->J->ao)(o:Oper)(g:Operand->I)(d:List bP)(q:bE)(h:J)(hs:List Hint):kg (gE l3):=match Ce o g d q h hs with
 |some r=>r
 |none=>Cd P inR call o g d q h hs
def tZ(P:Program)(inR:Bool)(call:aF->List I->J->ao)(gd:Option (I×Bool))(o:Oper)(g:Operand->I)(d:List bP)(q:bE)(h:J)(hs:List Hint):kg (gE l3):=
 match gd with
 |none=>y8 P inR call o g d q h hs
 |some (.bool x,b)=>match hs with
  |.b c::hs=>match c==b with
   |true=>match y8 P inR call o g d q h hs with
    |.cF ⟨s,cs,hs⟩=>.cF ⟨s,(x=c)::cs,hs⟩
    |.stop w x=>.stop w x
   |false=>.cF ⟨.ok (.aP []) d q h,[x=c],hs⟩
  |_=>.stop ("guard " ++o.pos) (some x)
 |some (.aP [],_)=>.cF ⟨.ok (.aP []) d q h,[],hs⟩
 |_=>.stop ("guard of what " ++o.pos) none
def t_(P:Program)(need m:Nat)(env:List I)(Γ:Env)(loc:List (Nat×Acc))(o:Oper):Bool:=o.op.operands.toList.all λx=>(mT m env Γ (cL P need loc x)).isSome
def kh(P:Program)(need m:Nat)(env:List I)(Γ:Env)(loc:List (Nat×Acc))(x:Operand):I:=(mT m env Γ (cL P need loc x)).getD .bad
def Hl(env:List I)(Γ:Env)(s:Step):Option (Option (I×Bool)):=match s.guard with
 |none=>some none
 |some (a,b)=>match mT s.m env Γ a with
  |some v=>some (some (v,b))
  |none=>none
def y9(P:Program)(need:Nat)(inR:Bool)(call:aF->List I->J->ao)(Γ:Env):List Step->List I->List bP->bE->J->List Hint->kg (gE lL)
 |[],env,d,q,h,hs=>.cF ⟨.ok env d q h,[],hs⟩
 |s::rest,env,d,q,h,hs=>
  match t_ P need s.m env Γ s.loc s.o with
  |false=>.stop ("an operand " ++s.o.pos) none
  |true=>
   match Hl env Γ s with
   |none=>.stop ("guard " ++s.o.pos) none
   |some gd=>match tZ P inR call gd s.o (kh P need s.m env Γ s.loc) d q h hs with
    |.cF ⟨.ok v bx bG an,cs,dD⟩=>match y9 P need inR call Γ rest (v::env) bx bG an dD with
     |.cF ⟨x,bX,sh⟩=>.cF ⟨x,cs++bX,sh⟩
     |.stop w x=>.stop w x
    |.cF ⟨.b1 v bx bG an,cs,dD⟩=>.cF ⟨.b1 v bx bG an,cs,dD⟩
    |.stop w x=>.stop w x
def si(need m:Nat)(env:List I)(e_:Env):List (Nat×Acc)->Env->Env
 |[],Γ=>Γ
 |(t,a)::l,Γ=>
  match Nat.testBit need t with
  |true=>match mT m env e_ a with
   |some v=>put t v (si need m env e_ l Γ)
   |none=>del t (si need m env e_ l Γ)
  |false=>si need m env e_ l Γ
def y_:List (Nat×Acc)->Env->Env
 |[],Γ=>Γ
 |(t,_)::l,Γ=>del t (y_ l Γ)
def J.room(h:J)(k:Nat):J:=⟨h.t,h.n+k⟩
@[simp] theorem J.Yr (h:J) (k b:Nat):(h.room k).get b=h.get b:=rfl
@[simp] theorem J.Ys (h:J) (k:Nat):(h.room k).n=h.n+k:=rfl
abbrev mU:=List (Nat×Nat×J)
structure iV where
 env:List I
 d:List bP
 q:bE
 h:J
 a1:mU
def wv(P:Program)(need:Nat)(ops:Array Oper)(n:Nat)(env:List I)(Γ:Env)(s:DStep):Option (Option (I×Bool)):=match jr P need ops s.loc s.o with
 |none=>some none
 |some (a,b)=>match mT n env Γ a with
  |some v=>some (some (v,b))
  |none=>none
def sj(s:DStep):mU->Bool
 |[]=>true
 |(e,_,_)::_=>Nat.testBit s.eE e
def Hm(P:Program)(t:TypeId)(l c:I)(b:Nat):Option (I×cp):=match P.underlying t,fo l,fo c with
 |some (.slice e),some l,some c=>match P.info? e,ea P e with
  |some i,some z=>match decide (l<=c)&&Nat.ble (c*(i.bytes+1)) 1099511627776&&Nat.beq z.cells.length i.size,(if c*i.size=0 then[] else eD c z.cells) with
   |true,cs=>match cs.all I.b0 with
    |true=>some (.slice b 0 l (.exact c),.cells cs e .own 0 0)
    |false=>none
   |_,_=>none
  |_,_=>none
 |_,_,_=>none
def Hn(P:Program)(op:Op)(g:Operand->I)(b:Nat)(v:I)(o:cp):Prop:=match op with
 |.makeSlice t l c=>Hm P t (g l) (g c) b=some (v,o)
 |_=>False
theorem Ho{P:Program}{op:Op}{g:Operand->I}{b:Nat}{v:I}{o:cp}(h:Hn P op g b v o):ju P op g b=some (v,o):=by
 cases op<;>first|exact h|exact absurd h id
def Hp(P:Program)(gd:Option (I×Bool))(s:DStep)(g:Operand->I)(b:Nat)(st:iV)(hs:List Hint):kg (gE iV):=
 match gd with
 |none=>match hs with
  |.Pe v o::hs=>.cF ⟨⟨v::st.env,st.d,st.q,st.h.set b (some o),st.a1⟩,[Hn P s.o.op g b v o],hs⟩
  |hs=>match ju P s.o.op g b with
   |some (v,o)=>.cF ⟨⟨v::st.env,st.d,st.q,st.h.set b (some o),st.a1⟩,[],hs⟩
   |none=>.stop ("alloc " ++s.o.pos) none
 |some (.bool x,c)=>match hs with
  |.b y::hs=>match y==c with
   |true=>match ju P s.o.op g b with
    |some (v,o)=>.cF ⟨⟨v::st.env,st.d,st.q,st.h.set b (some o),st.a1⟩,[x=y],hs⟩
    |none=>.stop ("alloc " ++s.o.pos) none
   |false=>.cF ⟨⟨.aP []::st.env,st.d,st.q,st.h,st.a1⟩,[x=y],hs⟩
  |_=>.stop ("guard " ++s.o.pos) (some x)
 |some (.aP [],_)=>.cF ⟨⟨.aP []::st.env,st.d,st.q,st.h,st.a1⟩,[],hs⟩
 |_=>.stop ("guard of what " ++s.o.pos) none
def za(P:Program)(need:Nat)(inR:Bool)(call:aF->List I->J->ao)(ops:Array Oper)(Γ:Env)(cE:Nat)(s:DStep)(st:iV)(hs:List Hint):kg (gE iV):=
 match t_ P need s.i st.env Γ s.loc s.o with
 |false=>.stop ("an operand " ++s.o.pos) none
 |true=>match wv P need ops s.i st.env Γ s with
  |none=>.stop ("guard " ++s.o.pos) none
  |some gd=>match kindOf P s.o.op with
   |.alloc=>Hp P gd s (kh P need s.i st.env Γ s.loc) (cE+s.i) st hs
   |.pure=>match tZ P inR call gd s.o (kh P need s.i st.env Γ s.loc) st.d st.q st.h hs with
    |.cF ⟨.ok v _ _ _,cs,dD⟩=>.cF ⟨⟨v::st.env,st.d,st.q,st.h,st.a1⟩,cs,dD⟩
    |.cF ⟨.b1 _ _ _ _,_,_⟩=>.stop ("a panic " ++s.o.pos) none
    |.stop w x=>.stop w x
   |.dS=>match sj s st.a1 with
    |false=>.stop ("order " ++s.o.pos) none
    |true=>match tZ P inR call gd s.o (kh P need s.i st.env Γ s.loc) st.d st.q st.h hs with
     |.cF ⟨.ok v bx bG an,cs,dD⟩=>.cF ⟨⟨v::st.env,bx,bG,an,(s.i,s.eE,st.h)::st.a1⟩,cs,dD⟩
     |.cF ⟨.b1 _ _ _ _,_,_⟩=>.stop ("a panic " ++s.o.pos) none
     |.stop w x=>.stop w x
def zb(P:Program)(need:Nat)(inR:Bool)(call:aF->List I->J->ao)(ops:Array Oper)(Γ:Env)(cE:Nat):List DStep->iV->List Hint->kg (gE iV)
 |[],st,hs=>.cF ⟨st,[],hs⟩
 |s::rest,st,hs=>match za P need inR call ops Γ cE s st hs with
  |.cF ⟨ca,cs,dD⟩=>match zb P need inR call ops Γ cE rest ca dD with
   |.cF ⟨y,bX,sh⟩=>.cF ⟨y,cs++bX,sh⟩
   |.stop w x=>.stop w x
  |.stop w x=>.stop w x
def Cf(P:Program)(need:Nat)(inR:Bool)(call:aF->List I->J->ao)(ops:Array Oper)(Γ:Env)(s:DStep)(rest:List DStep)(st:iV)(hs:List Hint):kg (gE (I×iV)):=
 match t_ P need s.i st.env Γ s.loc s.o with
 |false=>.stop ("an operand " ++s.o.pos) none
 |true=>match wv P need ops s.i st.env Γ s with
  |none=>.stop ("guard " ++s.o.pos) none
  |some gd=>match kindOf P s.o.op with
   |.dS=>match sj s st.a1 with
    |false=>.stop ("order " ++s.o.pos) none
    |true=>match tZ P inR call gd s.o (kh P need s.i st.env Γ s.loc) st.d st.q st.h hs with
     |.cF ⟨.b1 v bx bG an,cs,dD⟩=>match rest.all (λbC=>Nat.testBit bC.eE s.i) with
      |true=>.cF ⟨(v,⟨st.env,bx,bG,an,(s.i,s.eE,st.h)::st.a1⟩),cs,dD⟩
      |false=>.stop ("panic " ++s.o.pos) none
     |_=>.stop ("no panic " ++s.o.pos) none
   |_=>.stop ("no panic " ++s.o.pos) none
def zc(P:Program)(need:Nat)(inR:Bool)(call:aF->List I->J->ao)(ops:Array Oper)(Γ:Env)(cE:Nat):List DStep->iV->List Hint->kg (gE (I×iV))
 |[],_,_=>.stop "no panic" none
 |s::rest,st,hs=>match Cf P need inR call ops Γ s rest st hs with
  |.cF y=>.cF y
  |.stop _ _=>match za P need inR call ops Γ cE s st hs with
   |.cF ⟨ca,cs,dD⟩=>match zc P need inR call ops Γ cE rest ca dD with
    |.cF ⟨y,bX,sh⟩=>.cF ⟨y,cs++bX,sh⟩
    |.stop w x=>.stop w x
   |.stop w x=>.stop w x
mutual
def I.sound:I->Bool
 |.bad=>false
 |.fn _ a b=>iC a&&iC b
 |.iface _ v=>v.sound
 |.agg l=>iC l
 |.aP l=>iC l
 |_=>true
def iC:List I->Bool
 |[]=>true
 |a::l=>a.sound&&iC l
end
def Hq(o:Oper)(g:Operand->I):Option (Bool×I×I):=match o.op with
 |.pick c a b=>match g c with
  |.bool x=>some (x,g a,g b)
  |_=>none
 |_=>none
def isLen(o:Oper):Bool:=match o.op with
 |.call c=>match c.callee with
  |.builtin .len=>true
  |_=>false
 |_=>false
def wx(P:Program)(o:Oper)(g:Operand->I)(h:J)(v:I):List Prop:=match Hq o g with
 |some (x,a,b)=>[v.sound=true,cond x a b=v]
 |none=>match isLen o with
  |true=>[v.sound=true,ny P o g h v]
  |false=>match Cc o g with
   |1=>[v.sound=true,ny P o g h v]
   |_=>match cA P o g h with
    |.val v' _=>[v.sound=true,v'=v]
    |_=>[False]
def lookW(v:I)(q p:Prop):Prop:=match v with
 |.aP []=>q
 |_=>p
def Cg(P:Program)(need:Nat)(ops:Array Oper)(Γ:Env)(n:Nat)(env:List I)(s:DStep)(v:I)(h:J):List Prop:=
 match t_ P need n env Γ s.loc s.o,wv P need ops n env Γ s with
 |true,some gd=>match gd with
  |none=>wx P s.o (kh P need n env Γ s.loc) h v
  |some (.bool x,b)=>[lookW v ((x==b)=false) (dX (wx P s.o (kh P need n env Γ s.loc) h v))]
  |some (.aP [],_)=>[]
  |_=>[False]
 |_,_=>[False]
def pg(s:DStep)(dI:Option Nat)(a1:mU):Bool:=(match dI with|none=>false|some e=>Nat.testBit s.eE e)||(match a1 with|[]=>false|(_,m,_)::_=>Nat.testBit m s.i)
def ua(P:Program)(need:Nat)(ops:Array Oper)(Γ:Env)(n:Nat)(env:List I)(s:DStep)(v:I):Option Nat->J->mU->List Prop
 |dI,h,a1=>
  (match pg s dI a1 with
   |true=>[]
   |false=>Cg P need ops Γ n env s v h)++
  (match a1 with
   |[]=>[]
   |(e,_,an)::rest=>ua P need ops Γ n env s v (some e) an rest)
def zd(P:Program)(need:Nat)(ops:Array Oper)(Γ:Env)(n:Nat)(env:List I)(h:J)(a1:mU):List DStep->List Prop
 |[]=>[]
 |s::rest=>(match Nat.blt s.i n,kindOf P s.o.op with
   |true,.pure=>ua P need ops Γ n env s ((nth (n-1-s.i) env).getD .bad) none h a1
   |_,_=>[])++zd P need ops Γ n env h a1 rest
def ze(P:Program)(need:Nat)(ops:Array Oper)(Γ:Env)(n:Nat)(env:List I)(last:Option Nat)(h:J)(a1:mU):List DStep->List Prop
 |[]=>[]
 |s::rest=>(match Nat.blt s.i n,kindOf P s.o.op with
   |true,.pure=>ua P need ops Γ n env s ((nth (n-1-s.i) env).getD .bad) last h a1
   |_,_=>[])++ze P need ops Γ n env last h a1 rest
def Ch(P:Program)(need:Nat)(inR:Bool)(call:aF->List I->J->ao)(ops:Array Oper)(st:ah)(hs:List Hint):kg (gE (bw×ah)):=
 match zc P need inR call ops st.Γ st.h.n (eN ops.toList 0 [] []) ⟨[],st.d,st.q,st.h.room ops.size,[]⟩ hs with
 |.cF ⟨(v,⟨env,d,q,h,(e,m,h0)::a1⟩),cs,dD⟩=>.cF ⟨(.b1 v,⟨y_ (hX ops.toList 0 []) st.Γ,d,q,h⟩),cs++ze P need ops st.Γ env.length env (some e) h0 a1 (eN ops.toList 0 [] []),dD⟩
 |.cF _=>.stop "no panic" none
 |.stop w x=>.stop w x
def Ci(P:Program)(need:Nat)(inR:Bool)(call:aF->List I->J->ao)(ops:Array Oper)(st:ah)(hs:List Hint):kg (gE (bw×ah)):=
 match zb P need inR call ops st.Γ st.h.n (eN ops.toList 0 [] []) ⟨[],st.d,st.q,st.h.room ops.size,[]⟩ hs with
 |.cF ⟨⟨env,d,q,h,a1⟩,cs,dD⟩=>.cF ⟨(.nrm,⟨si need env.length env st.Γ (hX ops.toList 0 []) st.Γ,d,q,h⟩),cs++zd P need ops st.Γ env.length env h a1 (eN ops.toList 0 [] []),dD⟩
 |.stop _ _=>Ch P need inR call ops st hs
def cC(P:Program)(need:Nat)(rd:Option Nat)(call:aF->List I->J->ao)(c:Code)(st:ah)(e:bw)(ca:ah):Prop:=
 ∀r,Mod r st.Γ->∃r',ds P need rd call c r st.d st.q st.h=.ok e r' ca.d ca.q ca.h/\Mod r' ca.Γ
def Pk(need:Nat)(Γ:Env)(loc:List (Nat×Acc)):lL->Option (bw×ah)
 |.ok env d q h=>some (.nrm,⟨si need env.length env Γ loc Γ,d,q,h⟩)
 |.b1 v d q h=>some (.b1 v,⟨y_ loc Γ,d,q,h⟩)
 |.fail _=>none
def kL(P:Program)(need:Nat)(rd:Option Nat)(call:aF->List I->J->ao):Code->ah->List Hint->kg (gE (bw×ah))
 |.skip,st,hs=>.cF ⟨(.nrm,st),[],hs⟩
 |.label _,st,hs=>.cF ⟨(.nrm,st),[],hs⟩
 |.exit id,st,hs=>.cF ⟨(.exit id,st),[],hs⟩
 |.ret,st,hs=>.cF ⟨(.ret,st),[],hs⟩
 |.scope b,st,hs=>kL P need rd call b st hs
 |.region id ops draw,st,hs=>
  match draw with
  |false=>
   match y9 P need rd.isSome call st.Γ (n2 P need ops).steps [] st.d st.q st.h hs with
   |.cF ⟨x,cs,dD⟩=>match Pk need st.Γ (n2 P need ops).loc x with
    |some r=>.cF ⟨r,cs,dD⟩
    |none=>.stop "region" none
   |.stop w x=>.stop w x
  |true=>Ci P need rd.isSome call ops st hs
 |.seq a b,st,hs=>match kL P need rd call a st hs with
  |.cF ⟨(.nrm,ca),cs,dD⟩=>match kL P need rd call b ca dD with
   |.cF ⟨r,bX,sh⟩=>.cF ⟨r,cs++bX,sh⟩
   |.stop w x=>.stop w x
  |x=>x
 |.cond c a b,st,hs=>match mT 0 [] st.Γ (cL P need [] c) with
  |some (.bool x)=>match hs with
   |.b true::hs=>match kL P need rd call a st hs with
    |.cF ⟨r,cs,dD⟩=>.cF ⟨r,(x=true)::cs,dD⟩
    |.stop w x=>.stop w x
   |.b false::hs=>match kL P need rd call b st hs with
    |.cF ⟨r,cs,dD⟩=>.cF ⟨r,(x=false)::cs,dD⟩
    |.stop w x=>.stop w x
   |_=>.stop "if" (some x)
  |_=>.stop "if what" none
 |.block id b,st,hs=>match kL P need rd call b st hs with
  |.cF ⟨(.exit i,ca),cs,dD⟩=>match Nat.beq i id with
   |true=>.cF ⟨(.nrm,ca),cs,dD⟩
   |false=>.cF ⟨(.exit i,ca),cs,dD⟩
  |x=>x
 |.loop b,st,hs=>match hs with
  |.loop e ca::hs=>.cF ⟨(e,ca),[cC P need rd call (.loop b) st e ca],hs⟩
  |_=>.stop "loop" none
 |.rangeFunc f ps as cj,st,hs=>match hs with
  |.loop e ca::hs=>.cF ⟨(e,ca),[cC P need rd call (.rangeFunc f ps as cj) st e ca],hs⟩
  |_=>.stop "range over a function" none
 |.goto _,_,_=>.stop "goto" none
 |.refuse _,_,_=>.stop "refuse" none
end aB
namespace aB
open Go
theorem Cj:∀(p q:hy),p.num=q.num->p=q
 |.here,.here,_=>rfl
 |.here,.l q,h=>by simp only[hy.num] at h;omega
 |.here,.r q,h=>by simp only[hy.num] at h;omega
 |.l p,.here,h=>by simp only[hy.num] at h;omega
 |.r p,.here,h=>by simp only[hy.num] at h;omega
 |.l p,.l q,h=>by rw[Cj p q (by simp only[hy.num] at h;omega)]
 |.r p,.r q,h=>by rw[Cj p q (by simp only[hy.num] at h;omega)]
 |.l p,.r q,h=>by simp only[hy.num] at h;omega
 |.r p,.l q,h=>by simp only[hy.num] at h;omega
theorem Hr(p:hy):gw p.num=p:=Cj _ _ (yb _)
theorem sk(t u:Nat):(t=u/\Nat.beq t u=true)\/(t≠u/\Nat.beq t u=false):=by
 by_cases h:t=u
 · exact .inl ⟨h,by simp[h]⟩
 · refine .inr ⟨h,?_⟩
   cases af:Nat.beq t u with
   |false=>rfl
   |true=>exact absurd (Nat.eq_of_beq_eq_true af) h
theorem Ck(t u:Nat):∀Γ:Env,eQ t (del u Γ)=if t=u then none else eQ t Γ
 |[]=>by simp[del,eQ]
 |(x,v)::l=>by
  have bd:=Ck t u l
  simp only[del]
  rcases sk u x with⟨e,af⟩|⟨e,af⟩
  · rw[af];simp only[bd,eQ]
    subst e
    rcases sk t u with⟨ay,ek⟩|⟨ay,ek⟩
    · rw[if_pos ay,if_pos ay]
    · rw[if_neg ay,if_neg ay,ek]
  · rw[af];simp only[eQ,bd]
    rcases sk t x with⟨ay,ek⟩|⟨ay,ek⟩
    · rw[ek];simp only[]
      rw[if_neg]
      intro h;exact e (by rw[<-h,ay])
    · rw[ek]
theorem Pl(t u:Nat)(v:I)(Γ:Env):eQ t (put u v Γ)=if t=u then some v else eQ t Γ:=by
 simp only[put,eQ]
 rcases sk t u with⟨e,af⟩|⟨e,af⟩
 · rw[af,if_pos e]
 · rw[af,if_neg e,Ck,if_neg e]
theorem Mod.put{r:aR}{Γ:Env}(h:Mod r Γ)(t:Nat)(v:I):Mod (r.set (gw t) v) (put t v Γ):=by
 intro u x ab
 rw[Pl] at ab
 rw[aR.b2]
 by_cases e:u=t
 · rw[if_pos e] at ab⊢;cases ab;rfl
 · rw[if_neg e] at ab⊢;exact h u x ab
theorem Mod.del{r:aR}{Γ:Env}(h:Mod r Γ)(t:Nat)(v:I):Mod (r.set (gw t) v) (del t Γ):=by
 intro u x ab
 rw[Ck] at ab
 rw[aR.b2]
 by_cases e:u=t
 · rw[if_pos e] at ab;cases ab
 · rw[if_neg e] at ab⊢;exact h u x ab
theorem Cl(Γ:Env)(t:Nat)(v:I):∀l,eQ t (l2 Γ l)=some v->eQ t Γ=some v
 |[],h=>by simp[l2,eQ] at h
 |u::l,h=>by
  simp only[l2] at h
  cases hu:eQ u Γ with
  |none=>rw[hu] at h;exact Cl Γ t v l h
  |some x=>
   rw[hu] at h
   simp only[eQ] at h
   rcases sk t u with⟨e,af⟩|⟨e,af⟩
   · rw[af] at h;rw[e,hu];exact h
   · rw[af] at h;exact Cl Γ t v l h
theorem Mod.l2{r:aR}{Γ:Env}(h:Mod r Γ)(l:List Nat):Mod r (l2 Γ l):=λt v aU=>h t v (Cl Γ t v l aU)
theorem sl{m:Nat}{env:List I}{r:aR}{Γ:Env}(hm:Mod r Γ){a:Acc}{v:I}(h:mT m env Γ a=some v):dF m env r a=v:=by
 cases a with
 |env j=>simp only[mT] at h;simp only[dF,h,Option.getD_some]
 |reg p=>simp only[mT] at h;simp only[dF];rw[<-Hr p];exact hm _ _ h
 |val x=>cases h;rfl
section
variable {P:Program}
theorem sm{o:Oper}{g:Operand->I}{h:J}{v:I}(ag:ny P o g h v):cA P o g h=.val v h:=by
 obtain⟨dst,op,type,pos,after,guard⟩:=o
 cases op<;>simp only[ny] at ag<;>(try exact ag.elim)
 case load t a=>
  split at ag
  · rename_i b off n ak ba aI
    simp only[cA,ak,ba,ag,fp]
  · rename_i b off n ak ba aI
    split at ag
    · simp only[cA,ak,ba,aI,ag]
    · exact ag.elim
  · exact ag.elim
 case binOp op t x y yt=>
  split at ag
  · rename_i k a ff b ab a2
    split at ag
    · simp only[cA,ab,a2,ej,ag,fp]
    · simp only[cA,ab,a2,ej,ag,fp]
    · rename_i hd jy
      split at ag
      · rename_i av
        have e8:k=ff:=of_decide_eq_true av
        simp only[cA,ab,a2,ej]
        cases op<;>first|exact absurd rfl hd|exact absurd rfl jy|(simp only[if_pos e8,ag,fp])
      · exact ag.elim
  · rename_i a b ab a2
    simp only[cA,ab,a2,ej,ag,fp]
  · simp only[cA,ag,fp]
 case unOp op t x=>
  split at ag
  · rename_i k n ab;simp only[cA,ab,ag]
  · rename_i k n ab;simp only[cA,ab,ag,fp]
  · exact ag.elim
 case slice t x bk ae mx=>simp only[cA,ag,fp]
 case index t x i=>
  split at ag
  · rename_i s n hu ab ae
    unfold ga at ag
    simp only[cA,hu,ab,ae]
    split at ag
    · rename_i dT af;cases ag;simp only[af]
    · cases ag
  · rename_i m e cs n hu ab ae
    split at ag
    · rename_i sz bH
      simp only[cA,hu,ab,ae,bH,if_pos ag.1,ag.2,fp]
    · exact ag.elim
  · exact ag.elim
 case indexAddr t x i=>
  split at ag
  · rename_i m e b off n hu ab ae
    split at ag
    · rename_i sz bH
      simp only[cA,hu,ab,ae,bH,if_pos ag.1,ag.2]
    · exact ag.elim
  · rename_i e b off m c n hu ab ae
    split at ag
    · rename_i sz bH
      simp only[cA,hu,ab,ae,bH,if_pos ag.1,ag.2]
    · exact ag.elim
  · exact ag.elim
 case lookup t x i ok=>simp only[cA,ag,fp]
 case entry it=>simp only[cA,ag,fp]
 case convert src dst x=>simp only[cA,ag]
 case call c=>
  split at ag
  · rename_i x t ik gZ aU;simp only[cA,ik,gZ,hP,aU,ag,fp]
  · rename_i x t ik gZ aU;simp only[cA,ik,gZ,hP,aU,ag,fp]
  · rename_i x l _ ik gZ;simp only[cA,ik,gZ,hP,ag,fp]
  · rename_i x l _ ik gZ;simp only[cA,ik,gZ,hP,ag,fp]
  · rename_i x t ik gZ aU
    simp only[cA,ik,gZ]
    simp only[hP,aU] at ag⊢
    exact ag
  · exact ag.elim
theorem Hs:∀(n:Nat) (cs bX:List I),eR n [I.bad] cs=some bX->False
 |0,[],_,h=>by simp[eR] at h
 |0,_::_,_,h=>by simp[eR,I.b0] at h
 |_+1,[],_,h=>by simp[eR] at h
 |n+1,c::cs,bX,h=>by
  simp only[eR] at h
  split at h
  · rename_i r ai;exact Hs n cs r ai
  · cases h
theorem Pm{h an:J}{b off:Nat}(hs:aB.storeCells h b off (I.cells .bad)=some an):False:=by
 unfold aB.storeCells at hs
 split at hs
 · split at hs
   · split at hs
     · rename_i a_;exact Hs _ _ _ a_
     · cases hs
   · cases hs
 · cases hs
theorem Cm{o:Oper}{g:Operand->I}{h an:J}{v:I}(ag:tY P o g h v an):cA P o g h=.val v an:=by
 obtain⟨dst,op,type,pos,after,guard⟩:=o
 cases op<;>simp only[tY] at ag<;>(try exact ag.elim)
 case store t a x=>
  split at ag
  · rename_i b off ak
    obtain⟨aa,ad,rfl⟩:=ag
    simp only[cA,ak]
    rw[aa]
    have af:g x≠ .bad:=λaf=>by
     rw[af] at ad
     exact Pm ad
    cases eI:g x<;>first|exact absurd eI af|(rw[eI] at ad;simp[ad,oU])
  · exact ag.elim
 case convert src dst x=>simp only[cA,ag]
 case mapUpdate t m k x=>obtain⟨aa,rfl⟩:=ag;simp only[cA,aa,oU]
 case insert t m k x=>obtain⟨aa,rfl⟩:=ag;simp only[cA,aa,oU]
 case mapEntry t m k=>simp only[cA,ag,ky]
 case entryStore t m s x=>obtain⟨aa,rfl⟩:=ag;simp only[cA,aa,oU]
 case next it isStr=>simp only[cA,ag,ky]
 case range t x=>
  split at ag
  · rename_i cX hN hu
    unfold Hj at ag
    split at ag
    · rename_i m ak
      split at ag
      · rename_i es c hm
        cases ag
        simp only[cA,hu,ak,hm]
      · cases ag
    · cases ag
  · exact ag.elim
 case makeSlice t l c=>
  unfold tX at ag
  simp only[cA]
  split at ag
  · rename_i e ob c' hu aq wm
    split at ag
    · rename_i i z ae a4
      simp only[hu,aq,wm,ae,a4]
      split at ag
      · rename_i jT
        rw[if_pos jT]
        split at ag
        · rename_i b aj aI;cases ag;simp only[aI]
        · cases ag
      · cases ag
    · cases ag
  · cases ag
 case call c=>
  split at ag
  · rename_i x y t ik gZ aU;simp only[cA,ik,gZ,hP,aU,ag,ky]
  · rename_i x y t ik gZ aU;simp only[cA,ik,gZ,hP,aU,ag,ky]
  · rename_i x t ik gZ aU;simp only[cA,ik,gZ,hP,aU,ag,ky]
  · rename_i x y t ik gZ aU;simp only[cA,ik,gZ,hP,aU,ag,ky]
  · rename_i x y t ik gZ aU;simp only[cA,ik,gZ,hP,aU,ag,ky]
  · exact ag.elim
variable {inR:Bool} {call:aF->List I->J->ao}
theorem Ht{pos:String}{f:aF}{args:List I}{d:List bP}{q:bE}{h:J}{hs:List Hint}{y:gE l3}(ab:y7 call pos f args d q h hs=.cF y)(ag:dX y.cs):vl d q (call f args h)=y.res.res:=by
 unfold y7 at ab
 split at ab
 · cases ab;rw[ag.1];rfl
 · cases ab;rw[ag.1];rfl
 · cases ab
theorem Pn{o:Oper}{g:Operand->I}{d:List bP}{q:bE}{h:J}{hs:List Hint}{y:gE l3}(ab:Cd P inR call o g d q h hs=.cF y)(ag:dX y.cs):
  dG P inR call none o g d q h=y.res.res:=by
 unfold Cd at ab
 unfold dG
 simp only[eb]
 split at ab
 · cases ab
   rw[sm ag.1];rfl
 · split at ab
   · rename_i e x dD bo
     cases ab
     have aa:(g x).cells.all I.b0=true:=ag.1.h
     have he:o.op=.box e x:=by
      unfold Hk at bo
      split at bo
      · split at bo
        · rename_i he;cases bo;exact he
        · cases bo
      · cases bo
     have:cA P o g h=.val (.ptr h.n 0) (h.push (.cells (g x).cells e .own 0 0)):=by
      unfold cA;rw[he];simp only[newRow,aa]
     rw[this];rfl
   · split at ab
     · split at ab
       · rename_i fS;cases ab;rw[fS];rfl
       · rename_i fS;cases ab;rw[fS];rfl
       · rename_i fS;rw[fS];exact Ht ab ag
       · rename_i fS;rw[fS];exact Ht ab ag
       · rename_i z fS
         split at ab
         · cases ab
         · cases ab;rw[fS];rfl
       · rename_i fS
         split at ab
         · cases ab
         · split at ab
           · cases ab;rw[fS];rfl
           · cases ab;rw[fS];rfl
           · cases ab;rw[fS];rfl
       · cases ab
     · split at ab
       · cases ab
         rw[sm ag.1];rfl
       · cases ab
     · split at ab
       · cases ab
         rw[Cm ag.1];rfl
       · cases ab
theorem Hu{o:Oper}{g:Operand->I}{d:List bP}{q:bE}{h:J}{hs:List Hint}{y:gE l3}(ab:y8 P inR call o g d q h hs=.cF y)(ag:dX y.cs):
  dG P inR call none o g d q h=y.res.res:=by
 unfold y8 at ab
 cases a_:Ce o g d q h hs with
 |none=>rw[a_] at ab;exact Pn ab ag
 |some z=>
  rw[a_] at ab
  simp only at ab
  subst ab
  unfold Ce at a_
  split at a_
  · rename_i fE a b fD
    split at a_
    · rename_i dT ak
      split at a_
      · cases a_
        obtain⟨rfl,_⟩:=ag
        unfold dG cA
        simp[eb,fD,ak,l3.res]
      · cases a_
        obtain⟨rfl,_⟩:=ag
        unfold dG cA
        simp[eb,fD,ak,l3.res]
      · cases a_
    · cases a_
  · cases a_
theorem ub{gd:Option (I×Bool)}(hw:eb gd=some true)(o:Oper)(g:Operand->I)(d:List bP)(q:bE)(h:J):dG P inR call gd o g d q h=dG P inR call none o g d q h:=by
 unfold dG
 rw[hw]
 rfl
theorem wy{gd:Option (I×Bool)}(hw:eb gd=some false)(o:Oper)(g:Operand->I)(d:List bP)(q:bE)(h:J):dG P inR call gd o g d q h=.ok (.aP []) d q h:=by
 unfold dG
 simp only[hw]
theorem wz{gd:Option (I×Bool)}{o:Oper}{g:Operand->I}{d:List bP}{q:bE}{h:J}{hs:List Hint}{y:gE l3}(ab:tZ P inR call gd o g d q h hs=.cF y)(ag:dX y.cs):
  dG P inR call gd o g d q h=y.res.res:=by
 unfold tZ at ab
 split at ab
 · exact Hu ab ag
 · rename_i Yt b
   split at ab
   · rename_i c hd
     split at ab
     · rename_i ke
       split at ab
       · rename_i s iU jy cY
         cases ab
         obtain⟨rfl,ou⟩:=ag
         rw[ub (by simp only[eb];rw[ke])]
         exact(Hu cY ou:)
       · cases ab
     · rename_i ke
       cases ab
       obtain⟨rfl,_⟩:=ag
       rw[wy (by simp only[eb];rw[ke])];rfl
   · cases ab
 · cases ab
   rw[wy rfl];rfl
 · cases ab
variable {need:Nat}
theorem zf{m:Nat}{env:List I}{r:aR}{Γ:Env}(hm:Mod r Γ){loc:List (Nat×Acc)}{o:Oper}(av:t_ P need m env Γ loc o=true):∀x∈o.op.operands,dF m env r (cL P need loc x)=kh P need m env Γ loc x:=by
 intro x ab
 unfold t_ at av
 rw[List.all_eq_true] at av
 have:=av x (by simpa using ab)
 obtain⟨v,aC⟩:=Option.isSome_iff_exists.1 this
 unfold kh
 rw[aC,sl hm aC];rfl
theorem Hv{r:aR}{Γ:Env}(hm:Mod r Γ):∀(l:List Step) (env:List I) (d:List bP) (q:bE) (h:J) (hs:List Hint) (y:gE lL),y9 P need inR call Γ l env d q h hs=.cF y->dX y.cs->
  js P need inR call r l env d q h=y.res
 |[],env,d,q,h,hs,y,ab,ag=>by cases ab;rfl
 |s::rest,env,d,q,h,hs,y,ab,ag=>by
  simp only[y9] at ab
  split at ab
  · cases ab
  · rename_i av
    split at ab
    · cases ab
    · rename_i gd gC
      have key:∀z,dG P inR call gd s.o (kh P need s.m env Γ s.loc) d q h=z->js P need inR call r (s::rest) env d q h=match z with
        |.ok v bx bG an=>js P need inR call r rest (v::env) bx bG an
        |.b1 v bx bG an=>.b1 v bx bG an
        |.fail w=>.fail w:=λz a4=>by
       simp only[js]
       rw[<-a4,<-sb (zf hm av)]
       unfold Hl at gC
       cases BW:s.guard with
       |none=>rw[BW] at gC;cases gC;rfl
       |some p=>
        obtain⟨a,b⟩:=p
        rw[BW] at gC
        simp only at gC
        cases aC:mT s.m env Γ a with
        |none=>rw[aC] at gC;cases gC
        |some v=>rw[aC] at gC;cases gC;simp only[sl hm aC];rfl
      split at ab
      · rename_i v bx bG an iU hd fT
        split at ab
        · rename_i z wA jy qa
          cases ab
          obtain⟨c1,c2⟩:=dX.append ag
          have aa:=wz fT c1
          have ht:dG P inR call gd s.o (kh P need s.m env Γ s.loc) d q h=.ok v bx bG an:=aa
          rw[key _ ht]
          exact(Hv hm rest (v::env) bx bG an hd _ qa c2:)
        · cases ab
      · rename_i v bx bG an iU hd fT
        cases ab
        have aa:=wz fT ag
        have ht:dG P inR call gd s.o (kh P need s.m env Γ s.loc) d q h=.b1 v bx bG an:=aa
        rw[key _ ht]
      · cases ab
theorem Cn{m:Nat}{env:List I}{g8:aR}{e_:Env}(hm:Mod g8 e_):∀(l:List (Nat×Acc)) (r:aR) (Γ:Env),Mod r Γ->Mod (oV need m env g8 l r) (si need m env e_ l Γ)
 |[],r,Γ,h=>h
 |(t,a)::l,r,Γ,h=>by
  have bd:=Cn (m:=m) (env:=env) hm l r Γ h
  simp only[oV,si]
  cases Nat.testBit need t with
  |false=>exact bd
  |true=>
   simp only
   cases ak:mT m env e_ a with
   |some v=>simp only;rw[sl hm ak];exact bd.put t v
   |none=>simp only;exact bd.del t _
theorem Co:∀(l:List (Nat×Acc)) (r:aR) (Γ:Env),Mod r Γ->Mod (tu l r) (y_ l Γ)
 |[],r,Γ,h=>h
 |(t,a)::l,r,Γ,h=>(Co l r Γ h).del t _
mutual
theorem sn:∀v:I,v.sound=true->I.beq v v=true
 |.bool b,_=>by simp[I.beq]
 |.int k n,_=>by simp[I.beq,a0]
 |.str s,_=>by simp[I.beq,n8]
 |.bm,_=>rfl
 |.ptr a i,_=>by simp[I.beq]
 |.bf,_=>rfl
 |.slice a i n c,_=>by cases c<;>simp[I.beq,ch.beq]
 |.gU,_=>rfl
 |.map a,_=>by simp[I.beq]
 |.e4,_=>rfl
 |.fn f a b,h=>by
  simp only[I.sound,Bool.and_eq_true] at h
  simp only[I.beq,wB a h.1,wB b h.2,Bool.and_true]
  simp
 |.b8 a,_=>by simp[I.beq]
 |.ew,_=>rfl
 |.iface t v,h=>by
  simp only[I.sound] at h
  simp only[I.beq,sn v h,Bool.and_true]
  simp
 |.agg l,h=>by
  simp only[I.sound] at h
  simp only[I.beq,wB l h]
 |.aP l,h=>by
  simp only[I.sound] at h
  simp only[I.beq,wB l h]
 |.bad,h=>by simp[I.sound] at h
theorem wB:∀l:List I,iC l=true->I.jt l l=true
 |[],_=>rfl
 |a::l,h=>by
  simp only[iC,Bool.and_eq_true] at h
  simp only[I.jt,sn a h.1,wB l h.2,Bool.and_true]
end
theorem Cp{ops:Array Oper}{r:aR}{Γ:Env}(hm:Mod r Γ){n:Nat}{env:List I}{s:DStep}{gd:Option (I×Bool)}(h:wv P need ops n env Γ s=some gd):gi P need ops r n env s=gd:=by
 unfold wv at h
 unfold gi
 split at h
 · rename_i ak;rw[ak];cases h;rfl
 · rename_i a b ak
   rw[ak]
   split at h
   · rename_i v aC
     cases h
     simp only[sl hm aC]
   · cases h
def Po(P:Program)(need:Nat)(inR:Bool)(call:aF->List I->J->ao)(ops:Array Oper)(r:aR)(cE:Nat)(s:DStep)(st ca:iV):Prop:=
 ∀rest,fG P need inR call ops r cE (s::rest) st.env st.d st.q st.h st.a1=fG P need inR call ops r cE rest ca.env ca.d ca.q ca.h ca.a1
theorem Hw{ops:Array Oper}{r:aR}{Γ:Env}(hm:Mod r Γ){cE:Nat}{s:DStep}{st:iV}{hs:List Hint}{y:gE iV}(ab:za P need inR call ops Γ cE s st hs=.cF y)(ag:dX y.cs):Po P need inR call ops r cE s st y.res:=by
 intro rest
 unfold za at ab
 split at ab
 · cases ab
 · rename_i av
   have ak:=zf hm av
   split at ab
   · cases ab
   · rename_i gd gC
     have aA:=Cp hm gC
     split at ab
     · rename_i gF
       have ba:=wg (P:=P) (o:=s.o.op) (b:=cE+s.i) ak
       simp only[fG,gF,aA]
       rw[ba]
       unfold Hp at ab
       split at ab
       · split at ab
         · cases ab
           have iA:=Ho ag.1
           simp only[eb,iA]
         · split at ab
           · rename_i v o iA
             cases ab
             simp only[eb,iA]
           · cases ab
       · split at ab
         · rename_i x c _ fy hd
           split at ab
           · rename_i Cq
             split at ab
             · rename_i v o iA
               cases ab
               obtain⟨rfl,_⟩:=ag
               simp only[eb,Cq,iA]
             · cases ab
           · rename_i Cq
             cases ab
             obtain⟨rfl,_⟩:=ag
             simp only[eb,Cq]
         · cases ab
       · cases ab
         simp only[eb]
       · cases ab
     · rename_i gF
       simp only[fG,gF,aA]
       rw[sb ak]
       split at ab
       · rename_i v bx bG an iU hd fT
         cases ab
         have aa:=wz fT ag
         have ht:dG P inR call gd s.o (kh P need s.i st.env Γ s.loc) st.d st.q st.h=.ok v bx bG an:=aa
         rw[ht]
       · cases ab
       · cases ab
     · rename_i gF
       split at ab
       · cases ab
       · rename_i kJ
         simp only[fG,gF,aA]
         rw[sb ak]
         split at ab
         · rename_i v bx bG an iU hd fT
           cases ab
           have aa:=wz fT ag
           have ht:dG P inR call gd s.o (kh P need s.i st.env Γ s.loc) st.d st.q st.h=.ok v bx bG an:=aa
           rw[ht]
           cases cf:st.a1 with
           |nil=>rfl
           |cons a l=>
            obtain⟨e,m,aj⟩:=a
            rw[cf] at kJ
            simp only[sj] at kJ
            simp only[kJ]
         · cases ab
         · cases ab
theorem Hx{ops:Array Oper}{r:aR}{Γ:Env}(hm:Mod r Γ){cE:Nat}:∀(l:List DStep) (st:iV) (hs:List Hint) (y:gE iV),zb P need inR call ops Γ cE l st hs=.cF y->dX y.cs->
  fG P need inR call ops r cE l st.env st.d st.q st.h st.a1=.ok y.res.env y.res.d y.res.q y.res.h y.res.a1
 |[],st,hs,y,ab,ag=>by cases ab;rfl
 |s::rest,st,hs,y,ab,ag=>by
  simp only[zb] at ab
  split at ab
  · rename_i st1 iU hd aa
    split at ab
    · rename_i gO wA jy ad
      cases ab
      obtain⟨c1,c2⟩:=dX.append ag
      rw[Hw hm aa c1 rest]
      exact(Hx hm rest st1 hd ⟨gO,wA,jy⟩ ad c2:)
    · cases ab
  · cases ab
theorem Pp{o:Oper}{g:Operand->I}{h:J}{v:I}(ag:dX (wx P o g h v)):∃v' an,cA P o g h=.val v' an/\I.beq v' v=true:=by
 unfold wx at ag
 split at ag
 · rename_i x a b a_
   obtain⟨aa,ad,_⟩:=ag
   refine⟨v,h,?_,sn v aa⟩
   unfold Hq at a_
   split at a_
   · rename_i c db lS a7
     split at a_
     · rename_i eX zg
       cases a_
       cases x<;>simp only[cA,a7,zg]<;>rw[<-ad]<;>rfl
     · cases a_
   · cases a_
 split at ag
 · exact⟨v,h,sm ag.2.1,sn v ag.1⟩
 split at ag
 · exact⟨v,h,sm ag.2.1,sn v ag.1⟩
 · split at ag
   · rename_i v' an he
     obtain⟨aa,rfl,_⟩:=ag
     exact⟨v',an,he,sn v' aa⟩
   · exact ag.1.elim
theorem Hy{ops:Array Oper}{r:aR}{Γ:Env}(hm:Mod r Γ){n:Nat}{env:List I}{s:DStep}{v:I}{h:J}(ag:dX (Cg P need ops Γ n env s v h)):k4 P need ops r n env s v h=true:=by
 unfold Cg at ag
 unfold k4
 split at ag
 · rename_i gd av gC
   rw[Cp hm gC]
   have ak:=zf hm av
   have key:dX (wx P s.o (kh P need n env Γ s.loc) h v)->(match cA P s.o (λx=>dF n env r (cL P need s.loc x)) h with
     |.val v' _=>I.beq v' v
     |_=>false)=true:=λaq=>by
    rw[we s.o h ak]
    obtain⟨v',an,ax,ay⟩:=Pp aq
    rw[ax];exact ay
   split at ag
   · simp only[eb];exact key ag
   · rename_i x b
     simp only[eb]
     obtain⟨ag,_⟩:=ag
     unfold lookW at ag
     split at ag
     · rw[ag]
     · cases FX:(x==b) with
       |false=>rfl
       |true=>exact key ag
   · rfl
   · exact ag.1.elim
 · exact ag.1.elim
theorem zh{ops:Array Oper}{r:aR}{n:Nat}{env:List I}{s:DStep}{v:I}(dI:Option Nat)(h:J)(a1:mU):kd P need ops r n env s v dI h a1=
  ((match pg s dI a1 with|true=>true|false=>k4 P need ops r n env s v h)&&(match a1 with|[]=>true|(e,_,an)::rest=>kd P need ops r n env s v (some e) an rest)):=by
 cases a1<;>(rw[kd.eq_def];rfl)
theorem Cr{ops:Array Oper}{r:aR}{Γ:Env}(hm:Mod r Γ){n:Nat}{env:List I}{s:DStep}{v:I}:∀(a1:mU) (dI:Option Nat) (h:J),dX (ua P need ops Γ n env s v dI h a1)->kd P need ops r n env s v dI h a1=true
 |[],dI,h,ag=>by
  rw[zh]
  unfold ua at ag
  obtain⟨c1,_⟩:=dX.append ag
  cases af:pg s dI [] with
  |true=>rfl
  |false=>rw[af] at c1;simp only[Bool.and_true];exact Hy hm c1
 |(e,m,an)::rest,dI,h,ag=>by
  rw[zh]
  unfold ua at ag
  obtain⟨c1,c2⟩:=dX.append ag
  have bd:=Cr hm rest (some e) an c2
  cases af:pg s dI ((e,m,an)::rest) with
  |true=>simp only[Bool.true_and];exact bd
  |false=>
   rw[af] at c1
   simp only
   rw[Hy hm c1,Bool.true_and];exact bd
theorem Hz{ops:Array Oper}{r:aR}{Γ:Env}(hm:Mod r Γ){n:Nat}{env:List I}{h:J}{a1:mU}:∀(l:List DStep),dX (zd P need ops Γ n env h a1 l)->kz P need ops r n env none h a1 l=true
 |[],_=>rfl
 |s::rest,ag=>by
  simp only[zd] at ag
  obtain⟨c1,c2⟩:=dX.append ag
  simp only[kz]
  rw[Hz hm rest c2,Bool.and_true]
  cases aa:Nat.blt s.i n with
  |false=>rfl
  |true=>
   rw[aa] at c1
   cases ad:kindOf P s.o.op with
   |pure=>rw[ad] at c1;exact Cr hm a1 none h c1
   |alloc=>rfl
   |dS=>rfl
theorem Pq{ops:Array Oper}{r:aR}{Γ:Env}(hm:Mod r Γ){cE:Nat}{s:DStep}{rest:List DStep}{st:iV}{hs:List Hint}{y:gE (I×iV)}(ab:Cf P need inR call ops Γ s rest st hs=.cF y)(ag:dX y.cs):
  fG P need inR call ops r cE (s::rest) st.env st.d st.q st.h st.a1=.b1 y.res.1 y.res.2.env y.res.2.d y.res.2.q y.res.2.h y.res.2.a1:=by
 unfold Cf at ab
 split at ab
 · cases ab
 · rename_i av
   have ak:=zf hm av
   split at ab
   · cases ab
   · rename_i gd gC
     have aA:=Cp hm gC
     split at ab
     · rename_i gF
       split at ab
       · cases ab
       · rename_i kJ
         simp only[fG,gF,aA]
         rw[sb ak]
         split at ab
         · rename_i v bx bG an iU hd fT
           split at ab
           · rename_i e7
             cases ab
             have aa:=wz fT ag
             have ht:dG P inR call gd s.o (kh P need s.i st.env Γ s.loc) st.d st.q st.h=.b1 v bx bG an:=aa
             rw[ht]
             cases cf:st.a1 with
             |nil=>simp only[e7]
             |cons a l=>
              obtain⟨e,m,aj⟩:=a
              rw[cf] at kJ
              simp only[sj] at kJ
              simp only[kJ,e7]
           · cases ab
         · cases ab
     · cases ab
theorem HA{ops:Array Oper}{r:aR}{Γ:Env}(hm:Mod r Γ){cE:Nat}:∀(l:List DStep) (st:iV) (hs:List Hint) (y:gE (I×iV)),zc P need inR call ops Γ cE l st hs=.cF y->dX y.cs->
  fG P need inR call ops r cE l st.env st.d st.q st.h st.a1=.b1 y.res.1 y.res.2.env y.res.2.d y.res.2.q y.res.2.h y.res.2.a1
 |[],st,hs,y,ab,ag=>by cases ab
 |s::rest,st,hs,y,ab,ag=>by
  simp only[zc] at ab
  split at ab
  · rename_i fy aa
    cases ab
    exact Pq hm aa ag
  · split at ab
    · rename_i st1 iU hd aa
      split at ab
      · rename_i gO wA jy ad
        cases ab
        obtain⟨c1,c2⟩:=dX.append ag
        rw[Hw hm aa c1 rest]
        exact(HA hm rest st1 hd ⟨gO,wA,jy⟩ ad c2:)
      · cases ab
    · cases ab
theorem HB{ops:Array Oper}{r:aR}{Γ:Env}(hm:Mod r Γ){n:Nat}{env:List I}{last:Option Nat}{h:J}{a1:mU}:∀(l:List DStep),dX (ze P need ops Γ n env last h a1 l)->kz P need ops r n env last h a1 l=true
 |[],_=>rfl
 |s::rest,ag=>by
  simp only[ze] at ag
  obtain⟨c1,c2⟩:=dX.append ag
  simp only[kz]
  rw[HB hm rest c2,Bool.and_true]
  cases aa:Nat.blt s.i n with
  |false=>rfl
  |true=>
   rw[aa] at c1
   cases ad:kindOf P s.o.op with
   |pure=>rw[ad] at c1;exact Cr hm a1 last h c1
   |alloc=>rfl
   |dS=>rfl
theorem Pr{id:Nat}{ops:Array Oper}{rd:Option Nat}{st:ah}{hs:List Hint}{y:gE (bw×ah)}(ab:Ch P need rd.isSome call ops st hs=.cF y)(ag:dX y.cs):cC P need rd call (.region id ops true) st y.res.1 y.res.2:=by
 unfold Ch at ab
 split at ab
 · rename_i v env d q h e m h0 a1 iU hd aA
   cases ab
   obtain⟨c1,c2⟩:=dX.append ag
   intro r hm
   have aa:=HA hm _ _ _ _ aA c1
   have ad:=HB hm _ c2
   simp only at aa
   refine⟨_,?_,Co _ _ _ hm⟩
   have ht:fG P need rd.isSome call ops r st.h.n (eN ops.toList 0 [] []) [] st.d st.q ⟨st.h.t,st.h.n+ops.size⟩ []=.b1 v env d q h ((e,m,h0)::a1):=aa
   simp only[ds,rB,ht,ad,oW]
 · cases ab
 · cases ab
theorem Ps{id:Nat}{ops:Array Oper}{rd:Option Nat}{st:ah}{hs:List Hint}{y:gE (bw×ah)}(ab:Ci P need rd.isSome call ops st hs=.cF y)(ag:dX y.cs):cC P need rd call (.region id ops true) st y.res.1 y.res.2:=by
 unfold Ci at ab
 split at ab
 · rename_i env d q h a1 iU hd aA
   cases ab
   obtain⟨c1,c2⟩:=dX.append ag
   intro r hm
   have aa:=Hx hm _ _ _ _ aA c1
   have ad:=Hz hm _ c2
   simp only at aa
   refine⟨_,?_,Cn hm _ _ _ hm⟩
   have ht:fG P need rd.isSome call ops r st.h.n (eN ops.toList 0 [] []) [] st.d st.q ⟨st.h.t,st.h.n+ops.size⟩ []=.ok env d q h a1:=aa
   simp only[ds,rB,ht,ad,oW]
 · exact Pr ab ag
variable {rd:Option Nat}
theorem ov:∀(c:Code) (st:ah) (hs:List Hint) (y:gE (bw×ah)),kL P need rd call c st hs=.cF y->dX y.cs->cC P need rd call c st y.res.1 y.res.2
 |.skip,st,hs,y,ab,ag=>by cases ab;exactλr ai=>⟨r,rfl,ai⟩
 |.label _,st,hs,y,ab,ag=>by cases ab;exactλr ai=>⟨r,rfl,ai⟩
 |.exit id,st,hs,y,ab,ag=>by cases ab;exactλr ai=>⟨r,rfl,ai⟩
 |.ret,st,hs,y,ab,ag=>by cases ab;exactλr ai=>⟨r,rfl,ai⟩
 |.scope b,st,hs,y,ab,ag=>ov b st hs y ab ag
 |.region id ops draw,st,hs,y,ab,ag=>by
  simp only[kL] at ab
  cases draw with
  |true=>exact Ps ab ag
  |false=>
   simp only at ab
   split at ab
   · rename_i x iU hd cf
     split at ab
     · rename_i r1 Cs
       cases ab
       intro r ai
       have aa:=Hv ai _ _ _ _ _ _ _ cf ag
       simp only at aa
       simp only[ds,aa]
       cases x with
       |ok env d q h=>cases Cs;exact⟨_,rfl,Cn ai _ _ _ ai⟩
       |b1 v d q h=>cases Cs;exact⟨_,rfl,Co _ _ _ ai⟩
       |fail w=>cases Cs
     · cases ab
   · cases ab
 |.seq a b,st,hs,y,ab,ag=>by
  simp only[kL] at ab
  split at ab
  · rename_i st1 iU hd ba
    split at ab
    · rename_i r2 wA jy af
      cases ab
      obtain⟨c1,c2⟩:=dX.append ag
      intro r ai
      obtain⟨r1,aa,cM⟩:=ov a st hs _ ba c1 r ai
      obtain⟨r2,ad,ic⟩:=ov b st1 hd _ af c2 r1 cM
      exact⟨r2,by simp only at aa ad;simp only[ds,aa,oX,ad],ic⟩
    · cases ab
  · rename_i dk
    intro r ai
    obtain⟨r1,aa,cM⟩:=ov a st hs y ab ag r ai
    refine⟨r1,?_,cM⟩
    simp only[ds,aa]
    refine r3 (λcR=>?_)
    obtain⟨⟨ax,st1⟩,iU,hd⟩:=y
    simp only at cR
    subst cR
    exact dk _ _ _ ab
 |.cond c a b,st,hs,y,ab,ag=>by
  simp only[kL] at ab
  split at ab
  · rename_i x ak
    split at ab
    · split at ab
      · rename_i r1 iU hd ba
        cases ab
        obtain⟨rfl,c1⟩:=ag
        intro r ai
        obtain⟨r1,aa,cM⟩:=ov a st _ _ ba c1 r ai
        exact⟨r1,by simp only at aa;simp only[ds,sl ai ak,aa],cM⟩
      · cases ab
    · split at ab
      · rename_i r1 iU hd ba
        cases ab
        obtain⟨rfl,c1⟩:=ag
        intro r ai
        obtain⟨r1,aa,cM⟩:=ov b st _ _ ba c1 r ai
        exact⟨r1,by simp only at aa;simp only[ds,sl ai ak,aa],cM⟩
      · cases ab
    · cases ab
  · cases ab
 |.block id b,st,hs,y,ab,ag=>by
  simp only[kL] at ab
  split at ab
  · rename_i i st1 iU hd af
    split at ab
    · rename_i ae
      cases ab
      obtain rfl:=Nat.eq_of_beq_eq_true ae
      intro r ai
      obtain⟨r1,aa,cM⟩:=ov b st hs _ af ag r ai
      exact⟨r1,by simp only at aa;simp only[ds,aa,if_true],cM⟩
    · rename_i ae
      cases ab
      intro r ai
      obtain⟨r1,aa,cM⟩:=ov b st hs _ af ag r ai
      have dk:¬i=id:=by intro cR;subst cR;simp at ae
      exact⟨r1,by simp only at aa;simp only[ds,aa,if_neg dk],cM⟩
  · rename_i dk
    intro r ai
    obtain⟨r1,aa,cM⟩:=ov b st hs y ab ag r ai
    refine⟨r1,?_,cM⟩
    obtain⟨⟨ax,st1⟩,iU,hd⟩:=y
    simp only at aa
    simp only[ds,aa]
    cases ax<;>first|rfl|exact absurd ab (dk _ _ _ _)
 |.loop b,st,hs,y,ab,ag=>by
  simp only[kL] at ab
  split at ab
  · cases ab;exact ag.1
  · cases ab
 |.rangeFunc f ps as cj,st,hs,y,ab,ag=>by
  simp only[kL] at ab
  split at ab
  · cases ab;exact ag.1
  · cases ab
 |.goto _,st,hs,y,ab,ag=>by cases ab
 |.refuse _,st,hs,y,ab,ag=>by cases ab
end
end aB
namespace aB
theorem uc{z:Bool}(h:z=true):(Decidable.rec (motive:=λ_=>Bool) (λh=>(λx=>false) h) (λh=>(λx=>true) h) (instDecidableEqBool z false):Bool)=false:=by subst h;rfl
open Go
def sub:Code->List Nat->Code
 |c,[]=>c
 |.seq a _,0::l=>sub a l
 |.seq _ b,_::l=>sub b l
 |.cond _ a _,0::l=>sub a l
 |.cond _ _ b,_::l=>sub b l
 |.block _ b,_::l=>sub b l
 |.loop b,_::l=>sub b l
 |.scope b,_::l=>sub b l
 |.rangeFunc _ _ a _,0::l=>sub a l
 |.rangeFunc _ _ _ b,_::l=>sub b l
 |c,_::_=>c
def fF(fn:Func):Code:=fn.body.getD .skip
def cg:Env->Env->Prop
 |[],_=>True
 |(t,v)::l,Γ=>eQ t Γ=some v/\cg l Γ
theorem cg.ok:∀{Γ2 Γ:Env},cg Γ2 Γ->∀t v,eQ t Γ2=some v->eQ t Γ=some v
 |[],Γ,_,t,v,h=>by simp[eQ] at h
 |(u,x)::l,Γ,⟨aa,ad⟩,t,v,h=>by
  simp only[eQ] at h
  rcases sk t u with⟨e,af⟩|⟨e,af⟩
  · rw[af] at h;cases h;rw[e];exact aa
  · rw[af] at h;exact cg.ok ad t v h
theorem Mod.sub{r:aR}{Γ Γ2:Env}(h:Mod r Γ)(hs:cg Γ2 Γ):Mod r Γ2:=λt v aU=>h t v (hs.ok t v aU)
section
variable {P:Program} {need:Nat} {rd:Option Nat} {call:aF->List I->J->ao}
def Ct(b6:List Nat):kg (gE (bw×ah))->Option (gE (bw×ah))
 |.cF ⟨(e,⟨Γ,d,q,h⟩),cs,[]⟩=>some ⟨(e,⟨l2 Γ b6,d,q,h⟩),cs,[]⟩
 |_=>none
theorem Pt{c:Code}{st:ah}{hs:List Hint}{e:bw}{ca:ah}{cs:List Prop}(b6:List Nat)(ab:Ct b6 (kL P need rd call c st hs)=some ⟨(e,ca),cs,[]⟩)(ag:dX cs):cC P need rd call c st e ca:=by
 unfold Ct at ab
 split at ab
 · rename_i ax gb d1 aV aa iU Pu
   cases ab
   intro r ai
   obtain⟨r1,aa,cM⟩:=ov c st hs _ Pu ag r ai
   exact⟨r1,aa,cM.l2 b6⟩
 · cases ab
theorem cC.pre{c:Code}{st st1 ca:ah}{e:bw}(h:cC P need rd call c st e ca)(hs:cg st.Γ st1.Γ)(aA:st1.d=st.d)(bp:st1.q=st.q)(aj:st1.h=st.h):cC P need rd call c st1 e ca:=by
 intro r ai
 obtain⟨r1,aa,cM⟩:=h r (ai.sub hs)
 exact⟨r1,by rw[aA,bp,aj];exact aa,cM⟩
theorem cC.post{c:Code}{st ca:ah}{Γ2:Env}{e:bw}(h:cC P need rd call c st e ca)(hs:cg Γ2 ca.Γ):cC P need rd call c st e {ca with Γ:=Γ2}:=by
 intro r ai
 obtain⟨r1,aa,cM⟩:=h r ai
 exact⟨r1,aa,cM.sub hs⟩
def nz(P:Program)(need:Nat)(rd:Option Nat)(call:aF->List I->J->ao)(b:Code)(n:Nat)(st:ah)(e:bw)(ca:ah):Prop:=
 ∀r,Mod r st.Γ->∃r',n3 (ds P need rd call b) n r st.d st.q st.h=.ok e r' ca.d ca.q ca.h/\Mod r' ca.Γ
theorem nz.step{b:Code}{n:Nat}{st st1 ca:ah}{e:bw}(h:cC P need rd call b st .nrm st1)(ad:nz P need rd call b n st1 e ca):nz P need rd call b (n+1) st e ca:=by
 intro r ai
 obtain⟨r1,ax,cM⟩:=h r ai
 obtain⟨r2,ay,ic⟩:=ad r1 cM
 exact⟨r2,by simp only[n3,ax,oX,ay],ic⟩
theorem nz.exit{b:Code}{n:Nat}{st ca:ah}{e:bw}(h:cC P need rd call b st e ca)(he:e≠ .nrm):nz P need rd call b (n+1) st e ca:=by
 intro r ai
 obtain⟨r1,ax,cM⟩:=h r ai
 exact⟨r1,by simp only[n3,ax];exact r3 he,cM⟩
theorem Cu{f:aR->List bP->bE->J->iu}:∀{n m:Nat},n<=m->∀{r d q h e r' bx bG an},n3 f n r d q h=.ok e r' bx bG an->n3 f m r d q h=.ok e r' bx bG an
 |0,_,_,_,_,_,_,_,_,_,_,_,h=>by cases h
 |n+1,0,hle,_,_,_,_,_,_,_,_,_,_=>by omega
 |n+1,m+1,hle,r,d,q,h,e,r',bx,bG,an,ab=>by
  simp only[n3] at ab⊢
  cases hf:f r d q h with
  |fail w=>rw[hf] at ab;cases ab
  |ok ax r1 d1 aV aa=>
   rw[hf] at ab
   cases ax<;>simp only[oX] at ab⊢ <;>first|exact Cu (by omega) ab|exact ab
theorem nz.run{b:Code}{n:Nat}{st ca:ah}{e:bw}(h:nz P need rd call b n st e ca)(aI:n<=100000):cC P need rd call (.loop b) st e ca:=by
 intro r ai
 obtain⟨r1,ax,cM⟩:=h r ai
 exact⟨r1,by simp only[ds];exact Cu aI ax,cM⟩
def nA:Nat->List I->Env
 |_,[]=>[]
 |i,v::l=>(i,v)::nA (i+1) l
theorem HC(t:Nat)(v:I):∀(l:List I) (i:Nat),eQ t (nA i l)=some v->i<=t/\t<i+l.length/\l[t-i]? =some v
 |[],i,h=>by simp[nA,eQ] at h
 |x::l,i,h=>by
  simp only[nA,eQ] at h
  rcases sk t i with⟨e,af⟩|⟨e,af⟩
  · rw[af] at h;cases h;subst e;simp
  · rw[af] at h
    obtain⟨aa,ad,aw⟩:=HC t v l (i+1) h
    refine⟨by omega,by simp;omega,?_⟩
    have:t-i=(t-(i+1))+1:=by omega
    rw[this];simpa using aw
theorem zi(args:List I):Mod (nh 0 args .leaf) (nA 0 args):=by
 intro t v h
 obtain⟨aa,ad,aw⟩:=HC t v args 0 h
 rw[Bz,if_pos ⟨aa,ad⟩,aw];rfl
def ow(P:Program)(need:Nat)(Γ:Env)(h:J)(x:ResultVar):Option I:=
 match x with
 |.tmp t=>match Nat.testBit need t with
  |true=>eQ t Γ
  |false=>none
 |.cell t ty=>match Nat.testBit need t with
  |true=>match eQ t Γ with
   |none=>none
   |some p=>match p,nd P ty,dd P ty with
    |.ptr b off,some true,some n=>(match loadCells h b off n with|some cs=>some (.agg cs)|none=>none)
    |.ptr b off,some false,_=>au h b off
    |_,_,_=>none
  |false=>none
theorem Pv{Γ:Env}{r:aR}(hm:Mod r Γ){h:J}{x:ResultVar}{v:I}(ab:ow P need Γ h x=some v):p1 P need r h x=some v:=by
 cases x with
 |tmp t=>
  simp only[ow,p1] at ab⊢
  split at ab
  · rename_i af
    rw[af];simp only[hm t v ab]
  · cases ab
 |cell t ty=>
  simp only[ow,p1] at ab⊢
  split at ab
  · rename_i af
    rw[af]
    simp only
    cases aq:eQ t Γ with
    |none=>rw[aq] at ab;simp at ab
    |some p=>rw[aq] at ab;rw[hm t p aq];exact ab
  · cases ab
def mV(P:Program)(need:Nat)(fn:Func)(Γ:Env)(h:J):Option I:=
 match mz (ow P need Γ h) fn.results.toList with
 |some [v]=>some v
 |some vs=>some (.aP vs)
 |none=>none
theorem HD{Γ:Env}{r:aR}(hm:Mod r Γ){h:J}:∀(l:List ResultVar) (vs:List I),mz (ow P need Γ h) l=some vs->mz (p1 P need r h) l=some vs
 |[],vs,ab=>ab
 |x::l,vs,ab=>by
  simp only[mz] at ab⊢
  cases aa:ow P need Γ h x with
  |none=>rw[aa] at ab;simp at ab
  |some v=>
   rw[aa] at ab
   cases ad:mz (ow P need Γ h) l with
   |none=>rw[ad] at ab;simp at ab
   |some ws=>
    rw[ad] at ab
    rw[Pv hm aa,HD hm l ws ad];exact ab
theorem Cv{Γ:Env}{r:aR}(hm:Mod r Γ){h:J}{fn:Func}{v:I}(ab:mV P need fn Γ h=some v):oY P need fn r h=some v:=by
 unfold mV at ab
 unfold oY
 cases ba:mz (ow P need Γ h) fn.results.toList with
 |none=>rw[ba] at ab;cases ab
 |some vs=>
  rw[ba] at ab
  rw[HD hm _ _ ba];exact ab
variable {intr:Nat->List I->J->Option (I×J)}
theorem Pw{f:Nat}{fn:Func}{c:Code}{n:Nat}{args:List I}{h:J}(hf:P.funcs[f]? =some fn)(af:fn.body=some c)(aI:dM fn=need)(ae:intr f args h=none)(hle:Nat.ble args.length fn.ntmps=true)
  {e:bw}{Γ:Env}{q:bE}{an:J}(eH:cC P need none (fq P intr n) c ⟨nA 0 args,[],.none,h⟩ e ⟨Γ,[],q,an⟩)(he:e=.ret\/e=.nrm){v:I}(hR:mV P need fn Γ an=some v):
  fq P intr (n+1) (.fn f) args h=.ret v an:=by
 subst aI
 obtain⟨r1,aa,cM⟩:=eH _ (zi args)
 have ai:=Cv cM hR
 simp only[fq,ae,p2,hf,af,lM,hle,aa]
 rcases he with rfl|rfl<;>simp only[lN,jv,ai]
theorem Px{f:Nat}{fn:Func}{c:Code}{n:Nat}{args:List I}{h:J}(hf:P.funcs[f]? =some fn)(af:fn.body=some c)(aI:dM fn=need)(ae:intr f args h=none)(hle:Nat.ble args.length fn.ntmps=true)
  {v:I}{Γ:Env}{q:bE}{an:J}(eH:cC P need none (fq P intr n) c ⟨nA 0 args,[],.none,h⟩ (.b1 v) ⟨Γ,[],q,an⟩):
  fq P intr (n+1) (.fn f) args h=.b1 v an:=by
 subst aI
 obtain⟨r1,aa,cM⟩:=eH _ (zi args)
 simp only[fq,ae,p2,hf,af,lM,hle,aa,lN,jv]
abbrev az(P:Program)(fn:Func)(rd:Option Nat)(call:aF->List I->J->ao)(path:List Nat)(st:ah)(e:bw)(ca:ah):Prop:=cC P (dM fn) rd call (sub (fF fn) path) st e ca
abbrev Py(P:Program)(fn:Func)(rd:Option Nat)(call:aF->List I->J->ao)(path:List Nat)(st:ah)(hs:List Hint):kg (gE (bw×ah)):=kL P (dM fn) rd call (sub (fF fn) path) st hs
theorem bh{fn:Func}{path:List Nat}{st:ah}{hs:List Hint}{e:bw}{ca:ah}{cs:List Prop}(b6:List Nat)(ab:Ct b6 (Py P fn rd call path st hs)=some ⟨(e,ca),cs,[]⟩)(ag:dX cs):az P fn rd call path st e ca:=Pt b6 ab ag
end
end aB
namespace aB
open Go
theorem HE:∀(c:Code) (x:Nat) (l:List Nat),sub c (x::l)=sub (sub c [x]) l
 |.seq a b,0,l=>by simp[sub]
 |.seq a b,_+1,l=>by simp[sub]
 |.cond _ a b,0,l=>by simp[sub]
 |.cond _ a b,_+1,l=>by simp[sub]
 |.rangeFunc _ _ a b,0,l=>by simp[sub]
 |.rangeFunc _ _ a b,_+1,l=>by simp[sub]
 |.block _ b,x,l=>by simp[sub]
 |.loop b,x,l=>by simp[sub]
 |.scope b,x,l=>by simp[sub]
 |.skip,x,l=>by cases l<;>simp[sub]
 |.region _ _ _,x,l=>by cases l<;>simp[sub]
 |.exit _,x,l=>by cases l<;>simp[sub]
 |.ret,x,l=>by cases l<;>simp[sub]
 |.label _,x,l=>by cases l<;>simp[sub]
 |.goto _,x,l=>by cases l<;>simp[sub]
 |.refuse _,x,l=>by cases l<;>simp[sub]
theorem jZ(c:Code):∀(p l:List Nat),sub c (p++l)=sub (sub c p) l
 |[],l=>by simp[sub]
 |x::p,l=>by rw[List.cons_append,HE,jZ (sub c [x]) p l,<-HE]
def wC:Code->Bool
 |.seq _ _=>true
 |_=>false
def wD(id:Nat):Code->Bool
 |.block i _=>Nat.beq i id
 |_=>false
def zj:Code->Bool
 |.loop _=>true
 |_=>false
theorem Cw{c:Code}(h:wC c=true):c=.seq (sub c [0]) (sub c [1]):=by
 cases c<;>simp[wC,sub] at h⊢
theorem Cx{c:Code}{id:Nat}(h:wD id c=true):c=.block id (sub c [0]):=by
 cases c<;>simp only[wD] at h<;>(try (cases h;done))
 obtain rfl:=Nat.eq_of_beq_eq_true h
 simp[sub]
theorem Pz{c:Code}(h:zj c=true):c=.loop (sub c [0]):=by
 cases c<;>simp[zj,sub] at h⊢
section
variable {P:Program} {rd:Option Nat} {call:aF->List I->J->ao} {fn:Func}
theorem cC.seq{need:Nat}{a b:Code}{st st1 jW:ah}{e:bw}(aa:cC P need rd call a st .nrm st1)(ad:cC P need rd call b st1 e jW):cC P need rd call (.seq a b) st e jW:=by
 intro r ai
 obtain⟨r1,ax,cM⟩:=aa r ai
 obtain⟨r2,ay,ic⟩:=ad r1 cM
 exact⟨r2,by simp only[ds,ax,oX,ay],ic⟩
theorem cC.h4{need:Nat}{a b:Code}{st st1:ah}{e:bw}(aa:cC P need rd call a st e st1)(he:e≠ .nrm):cC P need rd call (.seq a b) st e st1:=by
 intro r ai
 obtain⟨r1,ax,cM⟩:=aa r ai
 exact⟨r1,by simp only[ds,ax];exact r3 he,cM⟩
theorem cC.block{need:Nat}{id:Nat}{b:Code}{st st1:ah}(aa:cC P need rd call b st (.exit id) st1):cC P need rd call (.block id b) st .nrm st1:=by
 intro r ai
 obtain⟨r1,ax,cM⟩:=aa r ai
 exact⟨r1,by simp only[ds,ax,if_true],cM⟩
theorem cC.qL{need:Nat}{id:Nat}{b:Code}{st st1:ah}{e:bw}(aa:cC P need rd call b st e st1)(he:e≠ .exit id):cC P need rd call (.block id b) st e st1:=by
 intro r ai
 obtain⟨r1,ax,cM⟩:=aa r ai
 refine⟨r1,?_,cM⟩
 simp only[ds,ax]
 cases e<;>first|rfl|(rename_i i;exact if_neg λh=>he (by rw[h]))
theorem az.seq{p:List Nat}{st st1 jW:ah}{e:bw}(hs:wC (sub (fF fn) p)=true)(aa:az P fn rd call (p++[0]) st .nrm st1)(ad:az P fn rd call (p++[1]) st1 e jW):az P fn rd call p st e jW:=by
 unfold az at*
 rw[Cw hs]
 rw[jZ] at aa ad
 exact aa.seq ad
theorem az.h4{p:List Nat}{st st1:ah}{e:bw}(hs:wC (sub (fF fn) p)=true)(aa:az P fn rd call (p++[0]) st e st1)(he:e≠ .nrm):az P fn rd call p st e st1:=by
 unfold az at*
 rw[Cw hs]
 rw[jZ] at aa
 exact aa.h4 he
theorem az.block{p:List Nat}{id:Nat}{st st1:ah}(hs:wD id (sub (fF fn) p)=true)(aa:az P fn rd call (p++[0]) st (.exit id) st1):az P fn rd call p st .nrm st1:=by
 unfold az at*
 rw[Cx hs]
 rw[jZ] at aa
 exact aa.block
theorem az.qL{p:List Nat}{id:Nat}{st st1:ah}{e:bw}(hs:wD id (sub (fF fn) p)=true)(aa:az P fn rd call (p++[0]) st e st1)(he:e≠ .exit id):az P fn rd call p st e st1:=by
 unfold az at*
 rw[Cx hs]
 rw[jZ] at aa
 exact aa.qL he
def ef(P:Program)(fn:Func)(rd:Option Nat)(call:aF->List I->J->ao)(p:List Nat)(n:Nat)(st:ah)(e:bw)(ca:ah):Prop:=nz P (dM fn) rd call (sub (fF fn) (p++[0])) n st e ca
theorem ef.step{p:List Nat}{n:Nat}{st st1 ca:ah}{e:bw}(h:az P fn rd call (p++[0]) st .nrm st1)(ad:ef P fn rd call p n st1 e ca):ef P fn rd call p (n+1) st e ca:=nz.step h ad
theorem ef.exit{p:List Nat}{n:Nat}{st ca:ah}{e:bw}(h:az P fn rd call (p++[0]) st e ca)(he:e≠ .nrm):ef P fn rd call p (n+1) st e ca:=nz.exit h he
theorem ef.run{p:List Nat}{n:Nat}{st ca:ah}{e:bw}(hs:zj (sub (fF fn) p)=true)(h:ef P fn rd call p n st e ca)(aI:n<=100000):az P fn rd call p st e ca:=by
 unfold az
 rw[Pz hs]
 unfold ef at h
 rw[jZ] at h
 exact nz.run h aI
theorem ed{intr:Nat->List I->J->Option (I×J)}{f:Nat}{n:Nat}{args:List I}{h:J}(hf:P.funcs[f]? =some fn)(af:fn.body.isSome=true)(ae:intr f args h=none)(hle:Nat.ble args.length fn.ntmps=true)
  {e:bw}{Γ:Env}{q:bE}{an:J}(eH:az P fn none (fq P intr n) [] ⟨nA 0 args,[],.none,h⟩ e ⟨Γ,[],q,an⟩)(he:e=.ret\/e=.nrm){v:I}(hR:mV P (dM fn) fn Γ an=some v):
  fq P intr (n+1) (.fn f) args h=.ret v an:=by
 obtain⟨c,ag⟩:=Option.isSome_iff_exists.1 af
 have so:fF fn=c:=by simp[fF,ag]
 unfold az at eH
 rw[so] at eH
 simp only[sub] at eH
 exact Pw hf ag rfl ae hle eH he hR
theorem PA{intr:Nat->List I->J->Option (I×J)}{f:Nat}{n:Nat}{args:List I}{h:J}(hf:P.funcs[f]? =some fn)(af:fn.body.isSome=true)(ae:intr f args h=none)(hle:Nat.ble args.length fn.ntmps=true)
  {v:I}{Γ:Env}{q:bE}{an:J}(eH:az P fn none (fq P intr n) [] ⟨nA 0 args,[],.none,h⟩ (.b1 v) ⟨Γ,[],q,an⟩):fq P intr (n+1) (.fn f) args h=.b1 v an:=by
 obtain⟨c,ag⟩:=Option.isSome_iff_exists.1 af
 have so:fF fn=c:=by simp[fF,ag]
 unfold az at eH
 rw[so] at eH
 simp only[sub] at eH
 exact Px hf ag rfl ae hle eH
theorem jz{i m:Nat}(ae:i<m)(hm:m<=1000000000000):arith BinOp.add IntKind.i64 (Int.ofNat i) (Int.ofNat 1)=some (I.int IntKind.i64 (Int.ofNat (i+1))):=by
 have h:=rH (i+1) (by omega)
 have e:Int.ofNat i+Int.ofNat 1=((i+1:Nat):Int):=rfl
 simp only[arith,e,h];rfl
theorem dx{a b:Nat}(h:a<b):bD (Int.ofNat a) (Int.ofNat b)=true:=by simp[bD];omega
theorem eg{a b:Nat}(h:¬a<b):bD (Int.ofNat a) (Int.ofNat b)=false:=by simp[bD];omega
theorem mW{s:List UInt8}{i:Nat}(h:i<s.length):ga i s=some (.int .u8 (Int.ofNat (s[i]).toNat)):=by
 unfold ga
 rw[o2,List.getElem?_eq_getElem h]
end
end aB
namespace aB
open Go
structure Ext(B:Nat)(h an:J):Prop where
 n:h.n<=an.n
 get:∀b,b<B->an.get b=h.get b
theorem Ext.refl(B:Nat)(h:J):Ext B h h:=⟨Nat.le_refl _,λ_ _=>rfl⟩
theorem Ext.trans{B lo:Nat}{h aa ad:J}(bI:B<=lo)(e:Ext B h aa)(cR:Ext lo aa ad):Ext B h ad:=⟨Nat.le_trans e.n cR.n,λb af=>(cR.get b (Nat.lt_of_lt_of_le af bI)).trans (e.get b af)⟩
theorem Ext.push{B:Nat}{h:J}(bI:B<=h.n)(o:cp):Ext B h (h.push o):=⟨by simp,λb af=>by rw[J.eB,if_neg (by omega)]⟩
theorem Ext.set{B:Nat}{h:J}{b:Nat}(af:B<=b)(o:Option cp):Ext B h (h.set b o):=⟨by simp,λc ag=>by rw[J.b2,if_neg (by omega)]⟩
theorem Ext.room(B:Nat)(h:J)(k:Nat):Ext B h (h.room k):=⟨by simp,λ_ _=>rfl⟩
theorem zk:∀(l m:List I),takeN l.length (l++m)=some l
 |[],m=>rfl
 |a::l,m=>by simp[takeN,zk l m]
theorem zl{h:J}{b e bk ae:Nat}{k:ey}{xs rest:List I}(ak:h.get b=some (.cells (xs++rest) e k bk ae)):loadCells h b 0 xs.length=some xs:=by
 simp[loadCells,ak,ho,zk]
theorem HF:∀(l m:List I) (x y:I) (r:List I),x.b0=true->eR l.length [x] (l++y::r)=some (l++x::r)
 |[],m,x,y,r,ab=>by
  simp only[List.length_nil,List.nil_append]
  cases r with
  |nil=>simp[eR,ab]
  |cons z r=>simp[eR,ab]
 |a::l,m,x,y,r,ab=>by
  have bd:=HF l m x y r ab
  simp only[List.length_cons,List.cons_append,eR,bd]
section
variable {P:Program}
theorem wE{h:J}{e bytes size need:Nat}{z:I}{cs:List I}{fz:Nat}(aa:k2 need bytes=true)(ad:Nat.beq z.cells.length size=true)(aw:cs.all I.b0=true):j_ h e bytes size need z cs fz=some (.slice h.n 0 need (.aS size),h.push (.cells cs e .aS 0 fz)):=by
 unfold j_
 rw[aa,ad,aw];rfl
theorem Cy{h:J}{t:TypeId}{s:List UInt8}{ae:Nat}{ff:IntKind}(hu:P.underlying t=some .string)(ad:ae<=s.length):
  e1 P h t (.str s) none (some (.int ff (Int.ofNat ae))) none=some (.str (s.take ae)):=by
 have a5:Nat.ble s.length s.length=true:=by simp
 have bt:Nat.ble ae s.length=true:=by simpa using ad
 have dP:Nat.ble 0 ae=true:=by simp
 simp only[e1,hu,bounds,jo,fo,a5,bt,dP,mE,List.drop_zero,Nat.sub_zero]
theorem PB{h:J}{t:TypeId}{s:List UInt8}{bk:Nat}{k:IntKind}(hu:P.underlying t=some .string)(ad:bk<=s.length):
  e1 P h t (.str s) (some (.int k (Int.ofNat bk))) none none=some (.str (s.drop bk)):=by
 have a5:Nat.ble s.length s.length=true:=by simp
 have bt:Nat.ble bk s.length=true:=by simpa using ad
 simp only[e1,hu,bounds,jo,fo,a5,bt,mE]
 rw[List.take_of_length_le (by simp)]
theorem fa{x y:List UInt8}(h:x.length+y.length<=1000000000000):eA .add x y=some (.str (x++y)):=by
 have:¬(((x.length+y.length:Nat):Int)>IntKind.i64.max):=by
  have e:IntKind.i64.max=9223372036854775807:=rfl
  rw[e];omega
 simp only[eA,if_neg this]
end
end aB
namespace aB
open Go
variable {P:Program} {call:aF->List I->J->ao}
def HG(l:Nat)(e:bw)(need:Nat)(r:aR)(ps:List Nat)(as cj:Code)(dR:Nat)(h:J):ao:=match e with
 |.nrm=>.ret (.bool true) (h.set l (some (.loop .ready none need r ps as cj dR)))
 |.ret=>.ret (.bool false) (h.set l (some (.loop .done (some .ret) need r ps as cj dR)))
 |.exit id=>.ret (.bool false) (h.set l (some (.loop .done (some (.exit id)) need r ps as cj dR)))
 |.b1 v=>.b1 v h
 |.goto _=>.fail "goto in a round"
theorem HH{l need t dR:Nat}{Γ gb Γ2:Env}{as cj:Code}{v:I}{h ad:J}{q aY:bE}{e:bw}{r:aR}
  (ak:h.get l=some (.loop .ready none need r [t] as cj dR))(hm:Mod r Γ)
  (ba:cC P need (some l) call as ⟨put t v Γ,[],.none,h⟩ .nrm ⟨gb,[],q,h⟩)
  (af:cC P need (some l) call cj ⟨gb,[],.none,h.set l (some (.loop .busy none need r [t] as cj dR))⟩ e ⟨Γ2,[],aY,ad⟩)
  (av:ad.get l=some (.loop .busy none need r [t] as cj dR)):
  n4 P call l [v] h=HG l e need r [t] as cj dR ad:=by
 obtain⟨r1,ax,cM⟩:=ba _ (hm.put t v)
 obtain⟨r2,ay,ic⟩:=af _ cM
 simp only at ax ay
 simp only[n4,ak,rC,ax,x8,ay]
 simp only[tx,av]
 cases e<;>rfl
theorem lp{h:J}{b t:Nat}{x:I}(ak:h.get b=some (.cells [x] t .own 0 0)):au h b 0=some x:=by
 simp only[au,ak];rfl
theorem zm{h:J}{b t:Nat}{x y:I}(a2:y.b0=true)(ak:h.get b=some (.cells [x] t .own 0 0)):aB.storeCells h b 0 [y]=some (h.set b (some (.cells [y] t .own 0 0))):=by
 have hw:iN .own 0 0 0 [y].length=true:=rfl
 simp only[aB.storeCells,ak,hw,eR,a2]
end aB
namespace aB
open Go
def W(P:Program)(need:Nat)(rd:Option Nat)(call:aF->List I->J->ao)(c:Code)(Q:bw->aR->List bP->bE->J->Prop)(r:aR)(d:List bP)(q:bE)(h:J):Prop:=
 ∃e r' bx bG an,ds P need rd call c r d q h=.ok e r' bx bG an/\Q e r' bx bG an
section
variable {P:Program} {need:Nat} {rd:Option Nat} {call:aF->List I->J->ao} {fn:Func}
theorem W.of{c:Code}{Q:bw->aR->List bP->bE->J->Prop}{r:aR}{st ca:ah}{e:bw}(ai:cC P need rd call c st e ca)(hm:Mod r st.Γ)(k:∀r',Mod r' ca.Γ->Q e r' ca.d ca.q ca.h):W P need rd call c Q r st.d st.q st.h:=by
 obtain⟨r',aa,ad⟩:=ai r hm
 exact⟨e,r',_,_,_,aa,k r' ad⟩
theorem W.seq{a b:Code}{Q:bw->aR->List bP->bE->J->Prop}{r:aR}{d:List bP}{q:bE}{h:J}
  (hw:W P need rd call a (λe r d q h=>(e=.nrm/\W P need rd call b Q r d q h)\/(e≠ .nrm/\Q e r d q h)) r d q h):W P need rd call (.seq a b) Q r d q h:=by
 obtain⟨e,r1,d1,aV,aa,ad,aw⟩:=hw
 rcases aw with⟨rfl,ay,r2,d2,aY,aQ,bS,dm⟩|⟨dk,bp⟩
 · exact⟨ay,r2,d2,aY,aQ,by simp only[ds,ad,oX,bS],dm⟩
 · exact⟨e,r1,d1,aV,aa,by simp only[ds,ad];exact r3 dk,bp⟩
theorem W.block{id:Nat}{b:Code}{Q:bw->aR->List bP->bE->J->Prop}{r:aR}{d:List bP}{q:bE}{h:J}
  (hw:W P need rd call b (λe r d q h=>(e=.exit id/\Q .nrm r d q h)\/(e≠ .exit id/\Q e r d q h)) r d q h):W P need rd call (.block id b) Q r d q h:=by
 obtain⟨e,r1,d1,aV,aa,ad,aw⟩:=hw
 rcases aw with⟨rfl,bp⟩|⟨dk,bp⟩
 · exact⟨.nrm,r1,d1,aV,aa,by simp only[ds,ad,if_true],bp⟩
 · refine⟨e,r1,d1,aV,aa,?_,bp⟩
   simp only[ds,ad]
   cases e<;>first|rfl|(rename_i i;exact if_neg λh=>dk (by rw[h]))
abbrev WF(P:Program)(fn:Func)(rd:Option Nat)(call:aF->List I->J->ao)(path:List Nat):=W P (dM fn) rd call (sub (fF fn) path)
theorem WF.seq{p:List Nat}{Q:bw->aR->List bP->bE->J->Prop}{r:aR}{d:List bP}{q:bE}{h:J}(hs:wC (sub (fF fn) p)=true)
  (hw:WF P fn rd call (p++[0]) (λe r d q h=>(e=.nrm/\WF P fn rd call (p++[1]) Q r d q h)\/(e≠ .nrm/\Q e r d q h)) r d q h):WF P fn rd call p Q r d q h:=by
 unfold WF at*
 rw[Cw hs]
 rw[jZ,jZ] at hw
 exact hw.seq
theorem WF.block{p:List Nat}{id:Nat}{Q:bw->aR->List bP->bE->J->Prop}{r:aR}{d:List bP}{q:bE}{h:J}(hs:wD id (sub (fF fn) p)=true)
  (hw:WF P fn rd call (p++[0]) (λe r d q h=>(e=.exit id/\Q .nrm r d q h)\/(e≠ .exit id/\Q e r d q h)) r d q h):WF P fn rd call p Q r d q h:=by
 unfold WF at*
 rw[Cx hs]
 rw[jZ] at hw
 exact hw.block
def Cz(f:Operand)(ps:List Nat):Code->Bool
 |.rangeFunc (.tmp g) sq _ _=>(match f with|.tmp t=>Nat.beq g t|_=>false)&&sq.toList==ps
 |_=>false
theorem PC{c:Code}{t:Nat}{ps:List Nat}(h:Cz (.tmp t) ps c=true):∃sq:Array Nat,sq.toList=ps/\c=.rangeFunc (.tmp t) sq (sub c [0]) (sub c [1]):=by
 unfold Cz at h
 split at h
 · rename_i g sq a b
   simp only[Bool.and_eq_true] at h
   obtain⟨aa,ad⟩:=h
   obtain rfl:=Nat.eq_of_beq_eq_true aa
   exact⟨sq,eq_of_beq ad,by simp[sub]⟩
 · cases h
theorem W.range{f:Operand}{ps:Array Nat}{as cj:Code}{Γ:Env}{Q:bw->aR->List bP->bE->J->Prop}{r:aR}{d:List bP}{q:bE}{h:J}{g:Nat}{aK:List I}
  (hf:mT 0 [] Γ (cL P need [] f)=some (.fn g [] aK))(hm:Mod r Γ)
  (ag:∃e an,kA (h.n+1) r (.collected h.n::d) q (call (.fn g) (.b8 (h.n+1)::aK) ((h.push (.defrd (some []))).push (.loop .ready none need r ps.toList as cj h.n)))=.ok e r (.collected h.n::d) q an/\Q e r (.collected h.n::d) q an):
  W P need none call (.rangeFunc f ps as cj) Q r d q h:=by
 obtain⟨e,an,c1,c2⟩:=ag
 refine⟨e,r,_,q,an,?_,c2⟩
 have ak:=sl hm hf
 rw[<-c1]
 simp only[ds,vn,ak,rA,nf]
 rfl
theorem WF.range{p:List Nat}{t:Nat}{ps:List Nat}{Γ:Env}{Q:bw->aR->List bP->bE->J->Prop}{r:aR}{d:List bP}{q:bE}{h:J}{g:Nat}{aK:List I}(hs:Cz (.tmp t) ps (sub (fF fn) p)=true)
  (aI:Nat.testBit (dM fn) t=true)(hf:eQ t Γ=some (.fn g [] aK))(hm:Mod r Γ)
  (ag:∃e an,kA (h.n+1) r (.collected h.n::d) q (call (.fn g) (.b8 (h.n+1)::aK) ((h.push (.defrd (some []))).push (.loop .ready none (dM fn) r ps (sub (fF fn) (p++[0])) (sub (fF fn) (p++[1])) h.n)))=.ok e r (.collected h.n::d) q an/\Q e r (.collected h.n::d) q an):
  WF P fn none call p Q r d q h:=by
 obtain⟨sq,bp,he⟩:=PC hs
 unfold WF
 rw[jZ,jZ] at ag
 rw[he]
 subst bp
 refine W.range (Γ:=Γ) ?_ hm ag
 have:cL P (dM fn) [] (.tmp t)=.reg (gw t):=by
  unfold cL
  simp only[hO,aI]
 rw[this]
 show eQ (gw t).num Γ=_
 rw[yb];exact hf
theorem HI{intr:Nat->List I->J->Option (I×J)}{f:Nat}{n:Nat}{args:List I}{h:J}{X:ao}(hf:P.funcs[f]? =some fn)(af:fn.body.isSome=true)(ae:intr f args h=none)(hle:Nat.ble args.length fn.ntmps=true)
  (hw:WF P fn none (fq P intr n) [] (λe r d q an=>lN P (fq P intr n) fn (.ok e r d q an)=X) (nh 0 args .leaf) [] .none h):fq P intr (n+1) (.fn f) args h=X:=by
 obtain⟨c,ag⟩:=Option.isSome_iff_exists.1 af
 have so:fF fn=c:=by simp[fF,ag]
 obtain⟨e,r,d,q,an,aa,ad⟩:=hw
 rw[so] at aa
 simp only[sub] at aa
 simp only[fq,ae,p2,hf,ag,lM,hle,aa,ad]
end
end aB
namespace aB
open Go
theorem ph:∀l:List UInt8,(cP l).length=l.length
 |[]=>rfl
 |a::l=>by simp[cP,ph l]
theorem zn:∀l m:List UInt8,cP (l++m)=cP l++cP m
 |[],m=>rfl
 |a::l,m=>by simp[cP,zn l m]
theorem zo:∀l:List UInt8,(cP l).all I.b0=true
 |[]=>rfl
 |a::l=>by rw[cP,List.all_cons,zo l];rfl
theorem CA:∀l:List UInt8,my (cP l)=some l
 |[]=>rfl
 |a::l=>by
  have aa:Nat.blt a.toNat 256=true:=by have:=UInt8.toNat_lt a;simp[Nat.blt];omega
  simp only[cP,my,CA l,aa,UInt8.ofNat_toNat]
theorem ud:∀(xs eS:List I),xs.all I.b0=true->xs.length<=eS.length->eR 0 xs eS=some (xs++eS.drop xs.length)
 |[],eS,_,_=>by cases eS<;>simp[eR]
 |x::xs,[],_,h=>by simp at h
 |x::xs,y::eS,ab,h=>by
  simp only[List.all_cons,Bool.and_eq_true] at ab
  have bd:=ud xs eS ab.2 (by simpa using h)
  simp[eR,ab.1,bd]
theorem wF:∀(l xs eS:List I),xs.all I.b0=true->xs.length<=eS.length->eR l.length xs (l++eS)=some (l++(xs++eS.drop xs.length))
 |[],xs,eS,ab,h=>by simpa using ud xs eS ab h
 |a::l,[],eS,ab,h=>by simp[eR]
 |a::l,x::xs,eS,ab,h=>by
  have bd:=wF l (x::xs) eS ab h
  simp only[List.length_cons,List.cons_append,eR] at bd⊢
  rw[bd]
theorem qM{i j:Nat}(h:i+j<9223372036854775808):arith BinOp.add IntKind.i64 (Int.ofNat i) (Int.ofNat j)=some (I.int IntKind.i64 (Int.ofNat (i+j))):=by
 have h:=rH (i+j) h
 have e:Int.ofNat i+Int.ofNat j=((i+j:Nat):Int):=rfl
 simp only[arith,e,h];rfl
theorem pj{i j:Nat}(aG:j<=i)(h:i<9223372036854775808):arith BinOp.sub IntKind.i64 (Int.ofNat i) (Int.ofNat j)=some (I.int IntKind.i64 (Int.ofNat (i-j))):=by
 have h:=rH (i-j) (by omega)
 have e:Int.ofNat i-Int.ofNat j=((i-j:Nat):Int):=by
  have ax:Int.ofNat i=(i:Int):=rfl
  have ay:Int.ofNat j=(j:Int):=rfl
  rw[ax,ay];omega
 simp only[arith,e,h];rfl
theorem wG{i j:Nat}(h:i*j<9223372036854775808):arith BinOp.mul IntKind.i64 (Int.ofNat i) (Int.ofNat j)=some (I.int IntKind.i64 (Int.ofNat (i*j))):=by
 have h:=rH (i*j) h
 have e:Int.ofNat i*Int.ofNat j=((i*j:Nat):Int):=rfl
 simp only[arith,e,h];rfl
theorem iD{a b:Nat}(h:a<=b):dv (Int.ofNat a) (Int.ofNat b)=true:=by simp[dv];omega
theorem jA{a b:Nat}(h:¬a<=b):dv (Int.ofNat a) (Int.ofNat b)=false:=by simp[dv];omega
def sr(B e:Nat)(h:J)(v:I)(w:List UInt8):Prop:=
 (v=.bf/\w=[])\/∃c rest,v=.slice c 0 w.length (.aS 1)/\h.get c=some (.cells (cP w++rest) e .aS 0 0)/\B<=c/\c<h.n
theorem sr.ext{B e:Nat}{h an:J}{v:I}{w:List UInt8}(af:sr B e h v w)(aI:h.n<=an.n)(ak:∀c,B<=c->c<h.n->an.get c=h.get c):sr B e an v w:=by
 rcases af with aa|⟨c,rest,aa,ad,aw,aQ⟩
 · exact .inl aa
 · exact .inr ⟨c,rest,aa,(ak c aw aQ).trans ad,aw,by omega⟩
section
variable {P:Program}
theorem PD{B:Nat}{h:J}{v:I}{w s:List UInt8}{sT e:TypeId}{xT:Option TypeId}{i:TypeInfo}{z:I}(bI:B<=h.n)(hu:P.underlying sT=some (.slice e))(gk:nZ P xT=true)(ae:P.info? e=some i)(bH:i.size=1)(a4:ea P e=some z)(ie:z.cells.length=1)
  (rK:k2 (w.length+s.length) i.bytes=true)(ai:sr B e h v w):
  ∃v' an,gx P h sT xT v (.str s)=some (v',an)/\sr B e an v' (w++s)/\Ext B h an:=by
 have g0:hW h 1 (.str s)=some (s.length,cP s):=rfl
 have HJ:Nat.beq z.cells.length 1=true:=by rw[ie];rfl
 rcases ai with⟨rfl,rfl⟩|⟨c,rest,rfl,ak,wH,ou⟩
 · cases s with
   |nil=>exact⟨.bf,h,by simp only[gx,hu,gk,ae,a4,bH];rfl,.inl ⟨rfl,rfl⟩,Ext.refl _ _⟩
   |cons a s=>
    have PE:k2 (a::s).length i.bytes=true:=by simpa using rK
    have eW:=wE (h:=h) (e:=e) (fz:=0) PE HJ (zo (a::s))
    refine⟨.slice h.n 0 (a::s).length (.aS 1),h.push (.cells (cP (a::s)) e .aS 0 0),?_,.inr ⟨h.n,[],by simp,by rw[J.eB,if_pos rfl];simp,bI,by simp⟩,Ext.push bI _⟩
    rw[<-eW]
    simp only[gx,hu,gk,ae,a4,bH,g0]
    rfl
 · cases s with
   |nil=>exact⟨.slice c 0 w.length (.aS 1),h,by simp only[gx,hu,gk,ae,a4,bH];rfl,.inr ⟨c,rest,by simp,by simpa using ak,wH,ou⟩,Ext.refl _ _⟩
   |cons a s=>
    have HK:(Nat.beq 1 1&&Nat.blt 0 1)=true:=rfl
    by_cases qh:(a::s).length<=rest.length
    · have pk:Nat.ble (0+(w.length+(a::s).length)*1) (cP w++rest).length=true:=by
        simp only[Nat.ble_eq,List.length_append,ph];omega
      have a_:=wF (cP w) (cP (a::s)) rest (zo _) (by rw[ph];exact qh)
      have hw:iN .aS 0 0 (0+w.length*1) (cP (a::s)).length=true:=by unfold iN;simp
      have wa:eR (0+w.length*1) (cP (a::s)) (cP w++rest)=some (cP w++(cP (a::s)++rest.drop (cP (a::s)).length)):=by
       rw[<-a_,ph];simp
      refine⟨.slice c 0 (w.length+(a::s).length) (.aS 1),h.set c (some (.cells (cP w++(cP (a::s)++rest.drop (cP (a::s)).length)) e .aS 0 0)),?_,.inr ⟨c,rest.drop (cP (a::s)).length,by simp,by rw[J.b2,if_pos rfl,zn];simp,wH,by simpa using ou⟩,Ext.set wH _⟩
      simp only[gx,hu,gk,ae,a4,bH,g0]
      simp only[HK,List.length_cons,ak]
      simp only[List.length_cons] at pk wa hw
      simp only[pk,aB.storeCells,ak,hw,wa]
    · have pk:Nat.ble (0+(w.length+(a::s).length)*1) (cP w++rest).length=false:=by
        cases af:Nat.ble (0+(w.length+(a::s).length)*1) (cP w++rest).length with
        |false=>rfl
        |true=>simp only[Nat.ble_eq,List.length_append,ph] at af;omega
      have aq:loadCells h c 0 (w.length*1)=some (cP w):=by
       have:=zl (xs:=cP w) ak
       rw[ph] at this;simpa using this
      have e7:(cP w++cP (a::s)).all I.b0=true:=by rw[<-zn];exact zo _
      have PF:(Nat.ble 0 (0+w.length*1)&&Nat.beq e e)=true:=by simp
      have eW:=wE (h:=h.set c none) (e:=e) (fz:=0-0) rK HJ e7
      refine⟨.slice (h.set c none).n 0 (w.length+(a::s).length) (.aS 1),(h.set c none).push (.cells (cP w++cP (a::s)) e .aS 0 0),?_,.inr ⟨(h.set c none).n,[],by simp,by rw[J.eB,if_pos rfl,zn];simp,by simp;omega,by simp⟩,
       (Ext.set wH none).trans (Nat.le_refl _) (Ext.push (by simp;omega) _)⟩
      simp only[List.length_cons] at pk eW
      simp only[gx,hu,gk,ae,a4,bH,g0]
      simp only[HK,List.length_cons,ak]
      simp only[pk,aq,PF,eW]
theorem PG{h:J}{pT u:TypeId}{c e:Nat}{w:List UInt8}{rest:List I}(hw:w≠[])(aq:w.length<=100000000000)(hu:P.underlying pT=some (.pointer u))(he:P.underlyingId e=P.underlyingId u)(hs:dd P e=some 1)(ak:h.get c=some (.cells (cP w++rest) e .aS 0 0)):
  oS P h pT (.ptr c 0) (.int .i64 (Int.ofNat w.length))=some (.str w,h.set c (some (.cells (cP w++rest) e .fz 0 0))):=by
 have aI:w.length≠0:=by cases w<;>simp at hw⊢
 have aU:takeN w.length (ho 0 (cP w++rest))=some (cP w):=by
  have:=zk (cP w) rest
  rw[ph] at this;exact this
 have hle:Nat.ble w.length 281474976710656=true:=by simp;omega
 simp only[oS,fo,if_neg aI,hu,ak,he,hs,hle,aU,CA]
 simp
end
end aB
namespace aB
open Go
section
variable {D:Type}
variable {enc:D->List I} {w:Nat}
theorem PH:∀(l m:List I) (n:Nat),l.length=n->takeN n (l++m)=some l
 |l,m,n,h=>by subst h;exact zk l m
theorem HL:∀(l m:List I),ho l.length (l++m)=m
 |[],m=>by cases m<;>rfl
 |a::l,m=>by simp[ho,HL l m]
end
end aB
namespace aB
open Go
theorem zp(n:Nat)(h:n<18446744073709551616):IntKind.wrap .u64 (n:Int)=(n:Int):=by
 have e:((n:Int) %18446744073709551616)=n:=by omega
 have ay:(2:Int)^64=18446744073709551616:=by rfl
 simp only[IntKind.wrap,IntKind.bits,IntKind.signed,ay,e,Bool.false_and,if_neg Bool.false_ne_true]
theorem wrap_u8(n:Nat):IntKind.wrap .u8 (n:Int)=((n %256:Nat):Int):=by
 have ay:(2:Int)^8=256:=by rfl
 simp only[IntKind.wrap,IntKind.bits,IntKind.signed,ay,Bool.false_and,if_neg Bool.false_ne_true]
 omega
theorem HM{i j:Nat}(h:i+j<18446744073709551616):arith BinOp.add IntKind.u64 (Int.ofNat i) (Int.ofNat j)=some (I.int IntKind.u64 (Int.ofNat (i+j))):=by
 have h:=zp (i+j) h
 have e:Int.ofNat i+Int.ofNat j=((i+j:Nat):Int):=rfl
 simp only[arith,e,h];rfl
theorem zq{i j:Nat}(aG:j<=i)(h:i<18446744073709551616):arith BinOp.sub IntKind.u64 (Int.ofNat i) (Int.ofNat j)=some (I.int IntKind.u64 (Int.ofNat (i-j))):=by
 have h:=zp (i-j) (by omega)
 have e:Int.ofNat i-Int.ofNat j=((i-j:Nat):Int):=by
  have ax:Int.ofNat i=(i:Int):=rfl
  have ay:Int.ofNat j=(j:Int):=rfl
  rw[ax,ay];omega
 simp only[arith,e,h];rfl
theorem HN{i j:Nat}(aG:0<j)(h:i<18446744073709551616):arith BinOp.quo IntKind.u64 (Int.ofNat i) (Int.ofNat j)=some (I.int IntKind.u64 (Int.ofNat (i/j))):=by
 have h:=zp (i/j) (by have:=Nat.div_le_self i j;omega)
 have e:(Int.ofNat i).tdiv (Int.ofNat j)=((i/j:Nat):Int):=rfl
 have dk:¬(Int.ofNat j=0):=by
  have ax:Int.ofNat j=(j:Int):=rfl
  rw[ax];omega
 simp only[arith,if_neg dk,e,h];rfl
theorem HO(k:IntKind){i j:Nat}(aG:0<j):arith BinOp.rem k (Int.ofNat i) (Int.ofNat j)=some (I.int k (Int.ofNat (i %j))):=by
 have e:(Int.ofNat i).tmod (Int.ofNat j)=((i %j:Nat):Int):=rfl
 have dk:¬(Int.ofNat j=0):=by
  have ax:Int.ofNat j=(j:Int):=rfl
  rw[ax];omega
 simp only[arith,if_neg dk,e];rfl
theorem PI{i j:Nat}:arith BinOp.add IntKind.u8 (Int.ofNat i) (Int.ofNat j)=some (I.int IntKind.u8 (Int.ofNat ((i+j) %256))):=by
 have h:=wrap_u8 (i+j)
 have e:Int.ofNat i+Int.ofNat j=((i+j:Nat):Int):=rfl
 simp only[arith,e,h];rfl
theorem zr(k:IntKind){i j:Nat}(aG:j<=k.bits):mw BinOp.shr k (Int.ofNat i) (Int.ofNat j)=some (I.int k (Int.ofNat (i/2^j))):=by
 have aI:¬(Int.ofNat j<0):=by
  have ax:Int.ofNat j=(j:Int):=rfl
  rw[ax];omega
 have ax:(Int.ofNat j).toNat=j:=rfl
 have ay:min j k.bits=j:=by omega
 have bF:(Int.ofNat i).fdiv (2^j)=((i/2^j:Nat):Int):=by
  have:(2:Int)^j=((2^j:Nat):Int):=by norm_cast
  rw[this]
  show((i:Int)).fdiv ((2^j:Nat):Int)=_
  rw[Int.fdiv_eq_ediv_of_nonneg _ (Int.natCast_nonneg _)]
  rfl
 simp only[mw,if_neg aI,ax,ay,bF];rfl
theorem HP{P:Program}{call:aF->List I->J->ao}{l need t dR:Nat}{Γ gb Γ2:Env}{as cj:Code}{v:I}{h aa ad:J}{q aY:bE}{e:bw}{r:aR}
  (ak:h.get l=some (.loop .ready none need r [t] as cj dR))(hm:Mod r Γ)
  (ba:cC P need (some l) call as ⟨put t v Γ,[],.none,h⟩ .nrm ⟨gb,[],q,aa⟩)(eW:aa.get l=some (.loop .ready none need r [t] as cj dR))
  (af:cC P need (some l) call cj ⟨gb,[],.none,aa.set l (some (.loop .busy none need r [t] as cj dR))⟩ e ⟨Γ2,[],aY,ad⟩)
  (av:ad.get l=some (.loop .busy none need r [t] as cj dR)):
  n4 P call l [v] h=HG l e need r [t] as cj dR ad:=by
 obtain⟨r1,ax,cM⟩:=ba _ (hm.put t v)
 obtain⟨r2,ay,ic⟩:=af _ cM
 simp only at ax ay
 simp only[n4,ak,rC,ax,x8,eW,ay]
 simp only[tx,av]
 cases e<;>rfl
section
variable {P:Program}
theorem zs{a b:TypeId}{ka k ff:IntKind}{n:Int}{h:J}(ba:P.underlying a=some (.int ka))(af:P.underlying b=some (.int ff)){m:Int}(hm:ff.wrap n=m):et P a b (.int k n) h=.val (.int ff m) h:=by
 simp only[et,ba,af,hm]
theorem HQ{a b e:TypeId}{h:J}{c:Nat}{cap:ch}{w:List UInt8}{rest:List I}{el bk up:Nat}{k:ey}(ba:P.underlying a=some (.slice e))(he:P.underlying e=some (.int .u8))(af:P.underlying b=some .string)(n_:cap=.exact w.length\/cap=.aS 1)
  (ak:h.get c=some (.cells (cP w++rest) el k bk up)):et P a b (.slice c 0 w.length cap) h=.val (.str w) h:=by
 have aq:loadCells h c 0 w.length=some (cP w):=by
  have:=zl (xs:=cP w) ak
  rwa [ph] at this
 rcases n_ with rfl|rfl<;>simp only[et,ba,he,af,aq,CA]
theorem HR:∀(n:Nat) (z:I),eD n [z]=List.replicate n z
 |0,z=>rfl
 |n+1,z=>by rw[eD,HR n z,List.singleton_append,List.replicate_succ]
theorem PJ{h:J}{t e:TypeId}{n:Nat}{i:TypeInfo}(hu:P.underlying t=some (.slice e))(ae:P.info? e=some i)(bH:i.size=1)(mR:i.bytes=1)(a4:ea P e=some (.int .u8 (Int.ofNat 0)))(aI:0<n)(hle:n<=1000000):
  tX P h t (.int .i64 (Int.ofNat n)) (.int .i64 (Int.ofNat n))=some (.slice h.n 0 n (.exact n),h.push (.cells (List.replicate n (.int .u8 (Int.ofNat 0))) e .own 0 0)):=by
 have aa:(decide (n<=n)&&Nat.ble (n*(i.bytes+1)) 1099511627776&&Nat.beq (I.cells (.int .u8 (Int.ofNat 0))).length i.size)=true:=by
  rw[mR,bH]
  have:n*(1+1)<=1099511627776:=by omega
  simp[I.cells,this]
 have ad:¬(n*i.size=0):=by rw[bH];omega
 have aw:(List.replicate n (I.int .u8 (Int.ofNat 0))).all I.b0=true:=by
  simp[List.all_replicate,I.b0]
 have aQ:eD n (I.cells (.int .u8 (Int.ofNat 0)))=List.replicate n (I.int .u8 (Int.ofNat 0)):=HR n _
 unfold tX
 simp only[hu,fo,ae,a4,aa,if_true,if_neg ad,aQ,newRow,aw]
end
end aB
namespace aB
open Go
theorem ss{a b:Nat}(h:a=b):a0 (Int.ofNat a) (Int.ofNat b)=true:=by subst h;simp[a0]
theorem kM{a b:Nat}(h:¬a=b):a0 (Int.ofNat a) (Int.ofNat b)=false:=by
 cases ab:a0 (Int.ofNat a) (Int.ofNat b) with
 |false=>rfl
 |true=>simp[a0] at ab;omega
theorem PK(m l:Nat):iN .own 0 0 m l=true:=by unfold iN;simp
theorem wI(m l:Nat):iN .aS 0 0 m l=true:=by unfold iN;simp
theorem HS{h:J}{b el:Nat}{k:ey}{l r:List I}{x y:I}(av:k=.own\/k=.aS)(ak:h.get b=some (.cells (l++y::r) el k 0 0)){off:Nat}(a7:off=l.length)(ab:x.b0=true):
  aB.storeCells h b off [x]=some (h.set b (some (.cells (l++x::r) el k 0 0))):=by
 subst a7
 have a_:=HF l [] x y r ab
 rcases av with rfl|rfl
 · have hw:=PK l.length [x].length
   simp only[aB.storeCells,ak,hw,a_]
 · have hw:=wI l.length [x].length
   simp only[aB.storeCells,ak,hw,a_]
structure eJ(p B:Nat)(h an:J):Prop where
 n:h.n<=an.n
 get:∀b,b<B->b≠p->an.get b=h.get b
theorem Ext.mX{B:Nat}{h an:J}(e:Ext B h an)(p:Nat):eJ p B h an:=⟨e.n,λb af _=>e.get b af⟩
theorem eJ.refl(p B:Nat)(h:J):eJ p B h h:=⟨Nat.le_refl _,λ_ _ _=>rfl⟩
theorem eJ.trans{p B lo:Nat}{h aa ad:J}(bI:B<=lo)(e:eJ p B h aa)(cR:eJ p lo aa ad):eJ p B h ad:=⟨Nat.le_trans e.n cR.n,λb af a_=>(cR.get b (Nat.lt_of_lt_of_le af bI) a_).trans (e.get b af a_)⟩
theorem eJ.set{p B:Nat}{h:J}(o:Option cp):eJ p B h (h.set p o):=⟨by simp,λc _ a_=>by rw[J.b2,if_neg a_]⟩
theorem eJ.PL{p B:Nat}{h an:J}(e:eJ p B h an)(a_:B<=p):Ext B h an:=⟨e.n,λb af=>e.get b af (by omega)⟩
theorem eJ.le{p B lo:Nat}{h an:J}(e:eJ p lo h an)(bI:B<=lo):eJ p B h an:=⟨e.n,λb af=>e.get b (by omega)⟩
theorem Ext.le{B lo:Nat}{h an:J}(e:Ext lo h an)(bI:B<=lo):Ext B h an:=⟨e.n,λb af=>e.get b (by omega)⟩
end aB
namespace aB
open Go
theorem gf{h:J}{o:cp}{b:Nat}(af:b=h.n):(h.push o).get b=some o:=by subst af;rw[J.eB,if_pos rfl]
theorem zt{h:J}{o:cp}{b:Nat}{x:Option cp}(af:b<h.n)(ab:h.get b=x):(h.push o).get b=x:=by rw[J.eB,if_neg (by omega)];exact ab
theorem iW{h:J}{o:cp}{b c:Nat}(af:b=c):(h.set c (some o)).get b=some o:=by subst af;rw[J.b2,if_pos rfl]
theorem pn{h:J}{b c:Nat}{o x:Option cp}(af:¬b=c)(ab:h.get b=x):(h.set c o).get b=x:=by rw[J.b2,if_neg af];exact ab
theorem nB{h:J}{k b:Nat}{x:Option cp}(ab:h.get b=x):(h.room k).get b=x:=ab
theorem aL{h:J}{b off:Nat}{cs:List I}{e bk up:Nat}{k:ey}{v:I}(ak:h.get b=some (.cells cs e k bk up))(aI:nth off cs=some v):au h b off=some v:=by simp only[au,ak,aI]
theorem nC{h:J}{b off m:Nat}{cs vs:List I}{e bk up:Nat}{k:ey}(ak:h.get b=some (.cells cs e k bk up))(aI:takeN m (ho off cs)=some vs):aB.loadCells h b off m=some vs:=by simp only[aB.loadCells,ak,aI]
theorem iE{h:J}{b off:Nat}{xs cs bX:List I}{e bk up:Nat}{k:ey}(ak:h.get b=some (.cells cs e k bk up))(hw:iN k bk up off xs.length=true)(a_:eR off xs cs=some bX):aB.storeCells h b off xs=some (h.set b (some (.cells bX e k bk up))):=by simp only[aB.storeCells,ak,hw,a_]
theorem Ext.hg{B b:Nat}{h g:J}{o:Option cp}(af:B<=b)(e:Ext B h g):Ext B h (g.set b o):=e.trans (Nat.le_refl _) (Ext.set af _)
theorem Ext.po{B:Nat}{h g:J}{o:cp}(bI:B<=g.n)(e:Ext B h g):Ext B h (g.push o):=e.trans (Nat.le_refl _) (Ext.push bI _)
theorem Ext.il{B k:Nat}{h g:J}(e:Ext B h g):Ext B h (g.room k):=⟨Nat.le_trans e.n (Nat.le_add_right _ _),e.get⟩
theorem PM(a:List UInt8):dU a a=true:=by
 induction a with
 |nil=>rfl
 |cons x l bd=>simp[dU,bd]
theorem ox(a b:Int):hM ir (.int .i64 a) [.int .i64 b]=some (.int .i64 (min a b)):=by
 simp only[hM,ir,if_true]
 by_cases h:b<a
 · have aq:bD b a=true:=by simp[bD];omega
   rw[if_pos aq,Int.min_eq_right (by omega)]
 · have aq:¬bD b a=true:=by simp[bD];omega
   rw[if_neg aq,Int.min_eq_left (by omega)]
end aB
