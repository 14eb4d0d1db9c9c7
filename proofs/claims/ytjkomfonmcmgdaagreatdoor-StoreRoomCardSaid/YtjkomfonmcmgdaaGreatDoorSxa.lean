/-
  PROVED HERE: symbolic runs of the evaluator, and that they are sound (Sxa). No condition beside each statement's own.
-/
import Derived.Test.YtjkomfonmcmgdaaGreatDoorAed
set_option linter.unusedVariables false
set_option linter.unusedSimpArgs false
namespace aP
open Go
abbrev Env:=List (Nat×I)
def ee(t:Nat):Env->Option I
 |[]=>none
 |(u,v)::l=>match Nat.beq t u with
  |true=>some v
  |false=>ee t l
def del(t:Nat):Env->Env
 |[]=>[]
 |(u,v)::l=>match Nat.beq t u with
  |true=>del t l
  |false=>(u,v)::del t l
def put(t:Nat)(v:I)(Γ:Env):Env:=(t,v)::del t Γ
def mR(Γ:Env):List Nat->Env
 |[]=>[]
 |t::l=>match ee t Γ with
  |some v=>(t,v)::mR Γ l
  |none=>mR Γ l
def Mod(r:aY)(Γ:Env):Prop:=∀t v,ee t Γ=some v->r.get (g2 t)=v
structure ah where
 Γ:Env
 d:List bU
 q:bF
 h:J
inductive Hint where
 |v (v:I)
 |l5 (v:I) (h:J)
 |c (v:I) (h:J)
 |p (v:I) (h:J)
 |b (b:Bool)
 |loop (e:bn) (st:ah)
 |SH (v:I) (o:df)
 |o (v:I)
 |SI
def er:List Prop->Prop
 |[]=>True
 |p::l=>p/\er l
theorem er.cons{p:Prop}{l:List Prop}(h:p)(t:er l):er (p::l):=⟨h,t⟩
theorem er.nil:er []:=trivial
theorem er.append:∀{l m:List Prop},er (l++m)->er l/\er m
 |[],m,h=>⟨trivial,h⟩
 |p::l,m,h=>⟨⟨h.1,(er.append h.2).1⟩,(er.append h.2).2⟩
def nH(m:Nat)(env:List I)(Γ:Env):Acc->Option I
 |.env j=>nth (m-1-j) env
 |.reg p=>ee p.num Γ
 |.val v=>some v
def Ej(o:Oper)(g:Operand->I):Nat:=match o.op with
 |.load .. |.slice .. |.index .. |.indexAddr .. |.lookup .. |.entry .. =>1
 |.binOp op _ x y _=>match op,g x,g y with
  |.eql,.int _ _,.int _ _|.neq,.int _ _,.int _ _|.lss,.int _ _,.int _ _|.leq,.int _ _,.int _ _|.gtr,.int _ _,.int _ _|.geq,.int _ _,.int _ _=>0
  |.eql,.str _,.str _|.neq,.str _,.str _|.lss,.str _,.str _|.leq,.str _,.str _|.gtr,.str _,.str _|.geq,.str _,.str _=>0
  |_,_,_=>1
 |.unOp op _ _=>match op with
  |.not=>0
  |_=>1
 |.convert _ _ x=>match g x with
  |.str _=>2
  |_=>1
 |.range _ x=>match g x with
  |.map _=>2
  |_=>0
 |.store .. |.mapUpdate .. |.mapEntry .. |.entryStore .. |.insert .. |.next .. |.makeSlice .. =>2
 |.call c=>match c.callee with
  |.builtin b=>match b with
   |.len=>match c.args.toList.map g with
    |[.map _]=>1
    |_=>0
   |.cap|.min|.max|.unsafeSliceData=>1
   |.append|.copy|.clear|.delete|.unsafeString=>2
   |_=>0
  |_=>0
 |_=>0
def gQ(n:Nat)(s:List UInt8):Option I:=match nth n s with
 |some b=>some (.int .u8 (Int.ofNat b.toNat))
 |none=>none
def oA(P:Program)(o:Oper)(g:Operand->I)(h:J)(v:I):Prop:=match o.op with
 |.load t a=>match g a,qc P t,dn P t with
  |.ptr b off,some false,some _=>au h b off=some v
  |.ptr b off,some true,some n=>match v with
   |.agg cs=>loadCells h b off n=some cs
   |_=>False
  |_,_,_=>False
 |.binOp op t x y _=>match g x,g y with
  |.int k a,.int ej b=>match op with
   |.shl=>ra .shl k a b=some v
   |.shr=>ra .shr k a b=some v
   |op=>match decide (k=ej) with
    |true=>arith op k a b=some v
    |false=>False
  |.str a,.str b=>gG op a b=some v
  |a,b=>eJ P h op t x y a b=some v
 |.slice t x aO af mx=>di P h t (g x) (aO.map g) (af.map g) (mx.map g)=some v
 |.index t x i=>match P.underlying t,g x,eK (g i) with
  |some .string,.str s,some n=>gQ n s=some v
  |some (.array m e),.agg cs,some n=>match dn P e with
   |some sz=>n<m/\iQ P e cs (n*sz)=some v
   |none=>False
  |_,_,_=>False
 |.indexAddr t x i=>match P.underlying t,g x,eK (g i) with
  |some (.array m e),.ptr b off,some n=>match dn P e with
   |some sz=>n<m/\v=.ptr b (off+n*sz)
   |none=>False
  |some (.slice e),.slice b off m c,some n=>match dn P e with
   |some sz=>n<m/\v=.ptr b (off+n*sz)
   |none=>False
  |_,_,_=>False
 |.lookup t x i ok=>hy P h t (g x) (g i) ok=some v
 |.entry it=>sW h (g it)=some v
 |.unOp op _ x=>match op,g x with
  |.neg,.int k n=>v=.int k (k.wrap (0-n))
  |.xor,.int k n=>arith .xor k (if k.signed then-1 else k.max) n=some v
  |_,_=>False
 |.convert src dst x=>iR P src dst (g x) h=.val v h
 |.call c=>match c.callee,c.args.toList.map g,c.argTypes[0]? with
  |.builtin .len,[x],some t=>cc P h t x=some v
  |.builtin .cap,[x],some t=>uR P t x=some v
  |.builtin .min,x::l,_=>jE qd x l=some v
  |.builtin .max,x::l,_=>jE mz x l=some v
  |.builtin .unsafeSliceData,[x],some t=>h6 P .unsafeSliceData #[t] [x] h=.val v h
  |_,_,_=>False
 |_=>False
def A0(P:Program)(h:J)(t:TypeId)(l c:I):Option (I×J):=match P.underlying t,eK l,eK c with
 |some (.slice e),some l,some c=>match P.info? e,ei P e with
  |some i,some z=>if l<=c&&Nat.ble (c*(i.bytes+1)) 1099511627776&&Nat.beq z.cells.length i.size then(match newRow h e (if c*i.size=0 then[] else fi c z.cells) with
   |some (b,an)=>some (.slice b 0 l (.exact c),an)
   |none=>none) else none
  |_,_=>none
 |_,_,_=>none
def A1(h:J):I->Option (I×J)
 |.map m=>match h.get m with
  |some (.map _ c)=>some (.ptr h.n 0,h.push (.mapIter (some m) c [] c))
  |_=>none
 |_=>none
def vw(P:Program)(o:Oper)(g:Operand->I)(h:J)(v:I)(an:J):Prop:=match o.op with
 |.store t a x=>match g a with
  |.ptr b off=>dn P t=some (g x).cells.length/\storeCells h b off (g x).cells=some an/\v=.aQ []
  |_=>False
 |.convert src dst x=>iR P src dst (g x) h=.val v an
 |.mapUpdate t m k x=>uT P h t (g m) (g k) (g x)=some an/\v=.aQ []
 |.insert t m k x=>uT P h t (g m) (g k) (g x)=some an/\v=.aQ []
 |.mapEntry t m k=>o_ P h t (g m) (g k)=some (v,an)
 |.entryStore t m s x=>pa h (g m) (g s) (g x)=some an/\v=.aQ []
 |.next it isStr=>z1 h (g it) isStr=some (v,an)
 |.range t x=>match P.underlying t with
  |some (.map _ _)=>A1 h (g x)=some (v,an)
  |_=>False
 |.makeSlice t l c=>A0 P h t (g l) (g c)=some (v,an)
 |.call c=>match c.callee,c.args.toList.map g,c.argTypes[0]? with
  |.builtin .append,[x,y],some t=>dt P h t c.argTypes[1]? x y=some (v,an)
  |.builtin .copy,[x,y],some t=>uS P h t x y=some (v,an)
  |.builtin .clear,[x],some t=>o5 P h t x=some (v,an)
  |.builtin .delete,[x,y],some t=>pb P h t x y=some (v,an)
  |.builtin .unsafeString,[x,y],some t=>o6 P h t x y=some (v,an)
  |_,_,_=>False
 |_=>False
inductive mS where
 |ok (v:I) (d:List bU) (q:bF) (h:J)
 |b6 (v:I) (d:List bU) (q:bF) (h:J)
def mS.res:mS->xb
 |.ok v d q h=>.ok v d q h
 |.b6 v d q h=>.b6 v d q h
inductive k4(α:Type 1) where
 |cO (a:α)
 |stop (jh:String) (x:Option Bool)
structure g6(α:Type):Type 1 where
 res:α
 cs:List Prop
 hs:List Hint
structure SJ(l:List I):Prop where
 h:l.all I.cT=true
def A2(call:aI->List I->J->av)(pos:String)(f:aI)(args:List I)(d:List bU)(q:bF)(h:J):List Hint->k4 (g6 mS)
 |.c v an::hs=>.cO ⟨.ok v d q an,[call f args h=.ret v an],hs⟩
 |.p v an::hs=>.cO ⟨.b6 v d q an,[call f args h=.b6 v an],hs⟩
 |_=>.stop ("call " ++pos) none
def SK(P:Program)(o:Oper):Bool:=match o.op with
 |.call c=>match c.callee with
  |.builtin b=>match b with
   |.len=>true
   |_=>false
  |_=>false
 |.binOp op t _ _ _=>match op with
  |.eql|.neq=>match P.underlying t with
   |some (.int _)=>false
   |some .string=>false
   |some .bool=>false
   |some _=>true
   |none=>false
  |_=>false
 |_=>false
def SL(P:Program)(o:Oper):List Hint->Option (I×List Hint)
 |.o v::hs=>match SK P o with
  |true=>some (v,hs)
  |false=>none
 |_=>none
def JU(o:Oper):List Hint->Option (TypeId×Operand×List Hint)
 |.SI::hs=>match o.op with
  |.box e x=>some (e,x,hs)
  |_=>none
 |_=>none
def Ek(P:Program)(inR:Bool)(call:aI->List I->J->av)(o:Oper)(g:Operand->I)(d:List bU)(q:bF)(h:J)(hs:List Hint):k4 (g6 mS):=
 match SL P o hs with
 |some (v,hs)=>.cO ⟨.ok v d q h,[oA P o g h v],hs⟩
 |none=>match JU o hs with
  |some (e,x,hs)=>.cO ⟨.ok (.ptr h.n 0) d q (h.push (.cells (g x).cells e .own 0 0)),[SJ (g x).cells],hs⟩
  |none=>match Ej o g with
   |0=>match cH P o g h with
    |.val v an=>.cO ⟨.ok v d q an,[],hs⟩
    |.b6 v an=>.cO ⟨.b6 v d q an,[],hs⟩
    |.call f args an=>A2 call o.pos (.fn f) args d q an hs
    |.dh l args an=>A2 call o.pos (.dh l) args d q an hs
    |.ll x=>match inR with
     |true=>.stop "defer" none
     |false=>.cO ⟨.ok (.aQ []) (x::d) q h,[],hs⟩
    |.sS=>match inR with
     |true=>.stop "recover" none
     |false=>match q with
      |.none=>.cO ⟨.ok .e1 d .none h,[],hs⟩
      |.done v=>.cO ⟨.ok .e1 d (.done v) h,[],hs⟩
      |.act v=>.cO ⟨.ok v d (.done v) h,[],hs⟩
    |.fail w=>.stop (w++ " " ++o.pos) none
   |1=>match hs with
    |.v v::hs=>.cO ⟨.ok v d q h,[oA P o g h v],hs⟩
    |_=>.stop ("value " ++o.pos) none
   |_=>match hs with
    |.l5 v an::hs=>.cO ⟨.ok v d q an,[vw P o g h v an],hs⟩
    |_=>.stop ("value and memory " ++o.pos) none
def El(o:Oper)(g:Operand->I)(d:List bU)(q:bF)(h:J)(hs:List Hint):Option (k4 (g6 mS)):=match o.op with
 |.pick c a b=>match g c with
  |.bool x=>match hs with
   |.b true::hs=>some (.cO ⟨.ok (g a) d q h,[x=true],hs⟩)
   |.b false::hs=>some (.cO ⟨.ok (g b) d q h,[x=false],hs⟩)
   |_=>some (.stop ("pick " ++o.pos) (some x))
  |_=>some (.stop ("pick of what " ++o.pos) none)
 |_=>none
def A3(P:Program)(inR:Bool)(call:aI->List I->J->av)(o:Oper)(g:Operand->I)(d:List bU)(q:bF)(h:J)(hs:List Hint):k4 (g6 mS):=match El o g d q h hs with
 |some r=>r
 |none=>Ek P inR call o g d q h hs
def vx(P:Program)(inR:Bool)(call:aI->List I->J->av)(gd:Option (I×Bool))(o:Oper)(g:Operand->I)(d:List bU)(q:bF)(h:J)(hs:List Hint):k4 (g6 mS):=
 match gd with
 |none=>A3 P inR call o g d q h hs
 |some (.bool x,b)=>match hs with
  |.b c::hs=>match c==b with
   |true=>match A3 P inR call o g d q h hs with
    |.cO ⟨s,cs,hs⟩=>.cO ⟨s,(x=c)::cs,hs⟩
    |.stop w x=>.stop w x
   |false=>.cO ⟨.ok (.aQ []) d q h,[x=c],hs⟩
  |_=>.stop ("guard " ++o.pos) (some x)
 |some (.aQ [],_)=>.cO ⟨.ok (.aQ []) d q h,[],hs⟩
 |_=>.stop ("guard of what " ++o.pos) none
def vy(P:Program)(need m:Nat)(env:List I)(Γ:Env)(loc:List (Nat×Acc))(o:Oper):Bool:=o.op.operands.toList.all λx=>(nH m env Γ (cJ P need loc x)).isSome
def k5(P:Program)(need m:Nat)(env:List I)(Γ:Env)(loc:List (Nat×Acc))(x:Operand):I:=(nH m env Γ (cJ P need loc x)).getD .bad
def JV(env:List I)(Γ:Env)(s:Step):Option (Option (I×Bool)):=match s.guard with
 |none=>some none
 |some (a,b)=>match nH s.m env Γ a with
  |some v=>some (some (v,b))
  |none=>none
def A4(P:Program)(need:Nat)(inR:Bool)(call:aI->List I->J->av)(Γ:Env):List Step->List I->List bU->bF->J->List Hint->k4 (g6 mA)
 |[],env,d,q,h,hs=>.cO ⟨.ok env d q h,[],hs⟩
 |s::rest,env,d,q,h,hs=>
  match vy P need s.m env Γ s.loc s.o with
  |false=>.stop ("an operand " ++s.o.pos) none
  |true=>
   match JV env Γ s with
   |none=>.stop ("guard " ++s.o.pos) none
   |some gd=>match vx P inR call gd s.o (k5 P need s.m env Γ s.loc) d q h hs with
    |.cO ⟨.ok v bd bk an,cs,dv⟩=>match A4 P need inR call Γ rest (v::env) bd bk an dv with
     |.cO ⟨x,bO,tC⟩=>.cO ⟨x,cs++bO,tC⟩
     |.stop w x=>.stop w x
    |.cO ⟨.b6 v bd bk an,cs,dv⟩=>.cO ⟨.b6 v bd bk an,cs,dv⟩
    |.stop w x=>.stop w x
def qL(need m:Nat)(env:List I)(gB:Env):List (Nat×Acc)->Env->Env
 |[],Γ=>Γ
 |(t,a)::l,Γ=>
  match Nat.testBit need t with
  |true=>match nH m env gB a with
   |some v=>put t v (qL need m env gB l Γ)
   |none=>del t (qL need m env gB l Γ)
  |false=>qL need m env gB l Γ
def A5:List (Nat×Acc)->Env->Env
 |[],Γ=>Γ
 |(t,_)::l,Γ=>del t (A5 l Γ)
def J.room(h:J)(k:Nat):J:=⟨h.t,h.n+k⟩
@[simp] theorem J.SM (h:J) (k b:Nat):(h.room k).get b=h.get b:=rfl
@[simp] theorem J.JW (h:J) (k:Nat):(h.room k).n=h.n+k:=rfl
abbrev nI:=List (Nat×Nat×J)
structure j0 where
 env:List I
 d:List bU
 q:bF
 h:J
 bf:nI
def yh(P:Program)(need:Nat)(ops:Array Oper)(n:Nat)(env:List I)(Γ:Env)(s:DStep):Option (Option (I×Bool)):=match jH P need ops s.loc s.o with
 |none=>some none
 |some (a,b)=>match nH n env Γ a with
  |some v=>some (some (v,b))
  |none=>none
def tD(s:DStep):nI->Bool
 |[]=>true
 |(e,_,_)::_=>Nat.testBit s.e2 e
def JX(P:Program)(t:TypeId)(l c:I)(b:Nat):Option (I×df):=match P.underlying t,eK l,eK c with
 |some (.slice e),some l,some c=>match P.info? e,ei P e with
  |some i,some z=>match decide (l<=c)&&Nat.ble (c*(i.bytes+1)) 1099511627776&&Nat.beq z.cells.length i.size,(if c*i.size=0 then[] else fi c z.cells) with
   |true,cs=>match cs.all I.cT with
    |true=>some (.slice b 0 l (.exact c),.cells cs e .own 0 0)
    |false=>none
   |_,_=>none
  |_,_=>none
 |_,_,_=>none
def JY(P:Program)(op:Op)(g:Operand->I)(b:Nat)(v:I)(o:df):Prop:=match op with
 |.makeSlice t l c=>JX P t (g l) (g c) b=some (v,o)
 |_=>False
theorem JZ{P:Program}{op:Op}{g:Operand->I}{b:Nat}{v:I}{o:df}(h:JY P op g b v o):j8 P op g b=some (v,o):=by
 cases op<;>first|exact h|exact absurd h id
def J0(P:Program)(gd:Option (I×Bool))(s:DStep)(g:Operand->I)(b:Nat)(st:j0)(hs:List Hint):k4 (g6 j0):=
 match gd with
 |none=>match hs with
  |.SH v o::hs=>.cO ⟨⟨v::st.env,st.d,st.q,st.h.set b (some o),st.bf⟩,[JY P s.o.op g b v o],hs⟩
  |hs=>match j8 P s.o.op g b with
   |some (v,o)=>.cO ⟨⟨v::st.env,st.d,st.q,st.h.set b (some o),st.bf⟩,[],hs⟩
   |none=>.stop ("alloc " ++s.o.pos) none
 |some (.bool x,c)=>match hs with
  |.b y::hs=>match y==c with
   |true=>match j8 P s.o.op g b with
    |some (v,o)=>.cO ⟨⟨v::st.env,st.d,st.q,st.h.set b (some o),st.bf⟩,[x=y],hs⟩
    |none=>.stop ("alloc " ++s.o.pos) none
   |false=>.cO ⟨⟨.aQ []::st.env,st.d,st.q,st.h,st.bf⟩,[x=y],hs⟩
  |_=>.stop ("guard " ++s.o.pos) (some x)
 |some (.aQ [],_)=>.cO ⟨⟨.aQ []::st.env,st.d,st.q,st.h,st.bf⟩,[],hs⟩
 |_=>.stop ("guard of what " ++s.o.pos) none
def A6(P:Program)(need:Nat)(inR:Bool)(call:aI->List I->J->av)(ops:Array Oper)(Γ:Env)(cE:Nat)(s:DStep)(st:j0)(hs:List Hint):k4 (g6 j0):=
 match vy P need s.i st.env Γ s.loc s.o with
 |false=>.stop ("an operand " ++s.o.pos) none
 |true=>match yh P need ops s.i st.env Γ s with
  |none=>.stop ("guard " ++s.o.pos) none
  |some gd=>match kindOf P s.o.op with
   |.alloc=>J0 P gd s (k5 P need s.i st.env Γ s.loc) (cE+s.i) st hs
   |.pure=>match vx P inR call gd s.o (k5 P need s.i st.env Γ s.loc) st.d st.q st.h hs with
    |.cO ⟨.ok v _ _ _,cs,dv⟩=>.cO ⟨⟨v::st.env,st.d,st.q,st.h,st.bf⟩,cs,dv⟩
    |.cO ⟨.b6 _ _ _ _,_,_⟩=>.stop ("a panic " ++s.o.pos) none
    |.stop w x=>.stop w x
   |.ek=>match tD s st.bf with
    |false=>.stop ("order " ++s.o.pos) none
    |true=>match vx P inR call gd s.o (k5 P need s.i st.env Γ s.loc) st.d st.q st.h hs with
     |.cO ⟨.ok v bd bk an,cs,dv⟩=>.cO ⟨⟨v::st.env,bd,bk,an,(s.i,s.e2,st.h)::st.bf⟩,cs,dv⟩
     |.cO ⟨.b6 _ _ _ _,_,_⟩=>.stop ("a panic " ++s.o.pos) none
     |.stop w x=>.stop w x
def A7(P:Program)(need:Nat)(inR:Bool)(call:aI->List I->J->av)(ops:Array Oper)(Γ:Env)(cE:Nat):List DStep->j0->List Hint->k4 (g6 j0)
 |[],st,hs=>.cO ⟨st,[],hs⟩
 |s::rest,st,hs=>match A6 P need inR call ops Γ cE s st hs with
  |.cO ⟨b2,cs,dv⟩=>match A7 P need inR call ops Γ cE rest b2 dv with
   |.cO ⟨y,bO,tC⟩=>.cO ⟨y,cs++bO,tC⟩
   |.stop w x=>.stop w x
  |.stop w x=>.stop w x
def Em(P:Program)(need:Nat)(inR:Bool)(call:aI->List I->J->av)(ops:Array Oper)(Γ:Env)(s:DStep)(rest:List DStep)(st:j0)(hs:List Hint):k4 (g6 (I×j0)):=
 match vy P need s.i st.env Γ s.loc s.o with
 |false=>.stop ("an operand " ++s.o.pos) none
 |true=>match yh P need ops s.i st.env Γ s with
  |none=>.stop ("guard " ++s.o.pos) none
  |some gd=>match kindOf P s.o.op with
   |.ek=>match tD s st.bf with
    |false=>.stop ("order " ++s.o.pos) none
    |true=>match vx P inR call gd s.o (k5 P need s.i st.env Γ s.loc) st.d st.q st.h hs with
     |.cO ⟨.b6 v bd bk an,cs,dv⟩=>match rest.all (λbc=>Nat.testBit bc.e2 s.i) with
      |true=>.cO ⟨(v,⟨st.env,bd,bk,an,(s.i,s.e2,st.h)::st.bf⟩),cs,dv⟩
      |false=>.stop ("panic " ++s.o.pos) none
     |_=>.stop ("no panic " ++s.o.pos) none
   |_=>.stop ("no panic " ++s.o.pos) none
def A8(P:Program)(need:Nat)(inR:Bool)(call:aI->List I->J->av)(ops:Array Oper)(Γ:Env)(cE:Nat):List DStep->j0->List Hint->k4 (g6 (I×j0))
 |[],_,_=>.stop "no panic" none
 |s::rest,st,hs=>match Em P need inR call ops Γ s rest st hs with
  |.cO y=>.cO y
  |.stop _ _=>match A6 P need inR call ops Γ cE s st hs with
   |.cO ⟨b2,cs,dv⟩=>match A8 P need inR call ops Γ cE rest b2 dv with
    |.cO ⟨y,bO,tC⟩=>.cO ⟨y,cs++bO,tC⟩
    |.stop w x=>.stop w x
   |.stop w x=>.stop w x
mutual
def I.sound:I->Bool
 |.bad=>false
 |.fn _ a b=>jL a&&jL b
 |.iface _ v=>v.sound
 |.agg l=>jL l
 |.aQ l=>jL l
 |_=>true
def jL:List I->Bool
 |[]=>true
 |a::l=>a.sound&&jL l
end
def J1(o:Oper)(g:Operand->I):Option (Bool×I×I):=match o.op with
 |.pick c a b=>match g c with
  |.bool x=>some (x,g a,g b)
  |_=>none
 |_=>none
def isLen(o:Oper):Bool:=match o.op with
 |.call c=>match c.callee with
  |.builtin .len=>true
  |_=>false
 |_=>false
def yi(P:Program)(o:Oper)(g:Operand->I)(h:J)(v:I):List Prop:=match J1 o g with
 |some (x,a,b)=>[v.sound=true,cond x a b=v]
 |none=>match isLen o with
  |true=>[v.sound=true,oA P o g h v]
  |false=>match Ej o g with
   |1=>[v.sound=true,oA P o g h v]
   |_=>match cH P o g h with
    |.val v' _=>[v.sound=true,v'=v]
    |_=>[False]
def lookW(v:I)(q p:Prop):Prop:=match v with
 |.aQ []=>q
 |_=>p
def En(P:Program)(need:Nat)(ops:Array Oper)(Γ:Env)(n:Nat)(env:List I)(s:DStep)(v:I)(h:J):List Prop:=
 match vy P need n env Γ s.loc s.o,yh P need ops n env Γ s with
 |true,some gd=>match gd with
  |none=>yi P s.o (k5 P need n env Γ s.loc) h v
  |some (.bool x,b)=>[lookW v ((x==b)=false) (er (yi P s.o (k5 P need n env Γ s.loc) h v))]
  |some (.aQ [],_)=>[]
  |_=>[False]
 |_,_=>[False]
def qM(s:DStep)(dV:Option Nat)(bf:nI):Bool:=(match dV with|none=>false|some e=>Nat.testBit s.e2 e)||(match bf with|[]=>false|(_,m,_)::_=>Nat.testBit m s.i)
def vz(P:Program)(need:Nat)(ops:Array Oper)(Γ:Env)(n:Nat)(env:List I)(s:DStep)(v:I):Option Nat->J->nI->List Prop
 |dV,h,bf=>
  (match qM s dV bf with
   |true=>[]
   |false=>En P need ops Γ n env s v h)++
  (match bf with
   |[]=>[]
   |(e,_,an)::rest=>vz P need ops Γ n env s v (some e) an rest)
def A9(P:Program)(need:Nat)(ops:Array Oper)(Γ:Env)(n:Nat)(env:List I)(h:J)(bf:nI):List DStep->List Prop
 |[]=>[]
 |s::rest=>(match Nat.blt s.i n,kindOf P s.o.op with
   |true,.pure=>vz P need ops Γ n env s ((nth (n-1-s.i) env).getD .bad) none h bf
   |_,_=>[])++A9 P need ops Γ n env h bf rest
def A_(P:Program)(need:Nat)(ops:Array Oper)(Γ:Env)(n:Nat)(env:List I)(last:Option Nat)(h:J)(bf:nI):List DStep->List Prop
 |[]=>[]
 |s::rest=>(match Nat.blt s.i n,kindOf P s.o.op with
   |true,.pure=>vz P need ops Γ n env s ((nth (n-1-s.i) env).getD .bad) last h bf
   |_,_=>[])++A_ P need ops Γ n env last h bf rest
def Eo(P:Program)(need:Nat)(inR:Bool)(call:aI->List I->J->av)(ops:Array Oper)(st:ah)(hs:List Hint):k4 (g6 (bn×ah)):=
 match A8 P need inR call ops st.Γ st.h.n (e7 ops.toList 0 [] []) ⟨[],st.d,st.q,st.h.room ops.size,[]⟩ hs with
 |.cO ⟨(v,⟨env,d,q,h,(e,m,h0)::bf⟩),cs,dv⟩=>.cO ⟨(.b6 v,⟨A5 (iS ops.toList 0 []) st.Γ,d,q,h⟩),cs++A_ P need ops st.Γ env.length env (some e) h0 bf (e7 ops.toList 0 [] []),dv⟩
 |.cO _=>.stop "no panic" none
 |.stop w x=>.stop w x
def Ep(P:Program)(need:Nat)(inR:Bool)(call:aI->List I->J->av)(ops:Array Oper)(st:ah)(hs:List Hint):k4 (g6 (bn×ah)):=
 match A7 P need inR call ops st.Γ st.h.n (e7 ops.toList 0 [] []) ⟨[],st.d,st.q,st.h.room ops.size,[]⟩ hs with
 |.cO ⟨⟨env,d,q,h,bf⟩,cs,dv⟩=>.cO ⟨(.nrm,⟨qL need env.length env st.Γ (iS ops.toList 0 []) st.Γ,d,q,h⟩),cs++A9 P need ops st.Γ env.length env h bf (e7 ops.toList 0 [] []),dv⟩
 |.stop _ _=>Eo P need inR call ops st hs
def c5(P:Program)(need:Nat)(rd:Option Nat)(call:aI->List I->J->av)(c:Code)(st:ah)(e:bn)(b2:ah):Prop:=
 ∀r,Mod r st.Γ->∃r',dy P need rd call c r st.d st.q st.h=.ok e r' b2.d b2.q b2.h/\Mod r' b2.Γ
def SN(need:Nat)(Γ:Env)(loc:List (Nat×Acc)):mA->Option (bn×ah)
 |.ok env d q h=>some (.nrm,⟨qL need env.length env Γ loc Γ,d,q,h⟩)
 |.b6 v d q h=>some (.b6 v,⟨A5 loc Γ,d,q,h⟩)
 |.fail _=>none
def lv(P:Program)(need:Nat)(rd:Option Nat)(call:aI->List I->J->av):Code->ah->List Hint->k4 (g6 (bn×ah))
 |.skip,st,hs=>.cO ⟨(.nrm,st),[],hs⟩
 |.label _,st,hs=>.cO ⟨(.nrm,st),[],hs⟩
 |.exit id,st,hs=>.cO ⟨(.exit id,st),[],hs⟩
 |.ret,st,hs=>.cO ⟨(.ret,st),[],hs⟩
 |.scope b,st,hs=>lv P need rd call b st hs
 |.region id ops draw,st,hs=>
  match draw with
  |false=>
   match A4 P need rd.isSome call st.Γ (pc P need ops).steps [] st.d st.q st.h hs with
   |.cO ⟨x,cs,dv⟩=>match SN need st.Γ (pc P need ops).loc x with
    |some r=>.cO ⟨r,cs,dv⟩
    |none=>.stop "region" none
   |.stop w x=>.stop w x
  |true=>Ep P need rd.isSome call ops st hs
 |.seq a b,st,hs=>match lv P need rd call a st hs with
  |.cO ⟨(.nrm,b2),cs,dv⟩=>match lv P need rd call b b2 dv with
   |.cO ⟨r,bO,tC⟩=>.cO ⟨r,cs++bO,tC⟩
   |.stop w x=>.stop w x
  |x=>x
 |.cond c a b,st,hs=>match nH 0 [] st.Γ (cJ P need [] c) with
  |some (.bool x)=>match hs with
   |.b true::hs=>match lv P need rd call a st hs with
    |.cO ⟨r,cs,dv⟩=>.cO ⟨r,(x=true)::cs,dv⟩
    |.stop w x=>.stop w x
   |.b false::hs=>match lv P need rd call b st hs with
    |.cO ⟨r,cs,dv⟩=>.cO ⟨r,(x=false)::cs,dv⟩
    |.stop w x=>.stop w x
   |_=>.stop "if" (some x)
  |_=>.stop "if what" none
 |.block id b,st,hs=>match lv P need rd call b st hs with
  |.cO ⟨(.exit i,b2),cs,dv⟩=>match Nat.beq i id with
   |true=>.cO ⟨(.nrm,b2),cs,dv⟩
   |false=>.cO ⟨(.exit i,b2),cs,dv⟩
  |x=>x
 |.loop b,st,hs=>match hs with
  |.loop e b2::hs=>.cO ⟨(e,b2),[c5 P need rd call (.loop b) st e b2],hs⟩
  |_=>.stop "loop" none
 |.rangeFunc f ps as cn,st,hs=>match hs with
  |.loop e b2::hs=>.cO ⟨(e,b2),[c5 P need rd call (.rangeFunc f ps as cn) st e b2],hs⟩
  |_=>.stop "range over a function" none
 |.goto _,_,_=>.stop "goto" none
 |.refuse _,_,_=>.stop "refuse" none
end aP
namespace aP
open Go
theorem Er:∀(p q:ih),p.num=q.num->p=q
 |.here,.here,_=>rfl
 |.here,.l q,h=>by simp only[ih.num] at h;omega
 |.here,.r q,h=>by simp only[ih.num] at h;omega
 |.l p,.here,h=>by simp only[ih.num] at h;omega
 |.r p,.here,h=>by simp only[ih.num] at h;omega
 |.l p,.l q,h=>by rw[Er p q (by simp only[ih.num] at h;omega)]
 |.r p,.r q,h=>by rw[Er p q (by simp only[ih.num] at h;omega)]
 |.l p,.r q,h=>by simp only[ih.num] at h;omega
 |.r p,.l q,h=>by simp only[ih.num] at h;omega
theorem J2(p:ih):g2 p.num=p:=Er _ _ (z6 _)
theorem tE(t u:Nat):(t=u/\Nat.beq t u=true)\/(t≠u/\Nat.beq t u=false):=by
 by_cases h:t=u
 · exact .inl ⟨h,by simp[h]⟩
 · refine .inr ⟨h,?_⟩
   cases ae:Nat.beq t u with
   |false=>rfl
   |true=>exact absurd (Nat.eq_of_beq_eq_true ae) h
theorem Es(t u:Nat):∀Γ:Env,ee t (del u Γ)=if t=u then none else ee t Γ
 |[]=>by simp[del,ee]
 |(x,v)::l=>by
  have a7:=Es t u l
  simp only[del]
  rcases tE u x with⟨e,ae⟩|⟨e,ae⟩
  · rw[ae];simp only[a7,ee]
    subst e
    rcases tE t u with⟨ay,fB⟩|⟨ay,fB⟩
    · rw[if_pos ay,if_pos ay]
    · rw[if_neg ay,if_neg ay,fB]
  · rw[ae];simp only[ee,a7]
    rcases tE t x with⟨ay,fB⟩|⟨ay,fB⟩
    · rw[fB];simp only[]
      rw[if_neg]
      intro h;exact e (by rw[<-h,ay])
    · rw[fB]
theorem SO(t u:Nat)(v:I)(Γ:Env):ee t (put u v Γ)=if t=u then some v else ee t Γ:=by
 simp only[put,ee]
 rcases tE t u with⟨e,ae⟩|⟨e,ae⟩
 · rw[ae,if_pos e]
 · rw[ae,if_neg e,Es,if_neg e]
theorem Mod.put{r:aY}{Γ:Env}(h:Mod r Γ)(t:Nat)(v:I):Mod (r.set (g2 t) v) (put t v Γ):=by
 intro u x aa
 rw[SO] at aa
 rw[aY.cV]
 by_cases e:u=t
 · rw[if_pos e] at aa⊢;cases aa;rfl
 · rw[if_neg e] at aa⊢;exact h u x aa
theorem Mod.del{r:aY}{Γ:Env}(h:Mod r Γ)(t:Nat)(v:I):Mod (r.set (g2 t) v) (del t Γ):=by
 intro u x aa
 rw[Es] at aa
 rw[aY.cV]
 by_cases e:u=t
 · rw[if_pos e] at aa;cases aa
 · rw[if_neg e] at aa⊢;exact h u x aa
theorem Et(Γ:Env)(t:Nat)(v:I):∀l,ee t (mR Γ l)=some v->ee t Γ=some v
 |[],h=>by simp[mR,ee] at h
 |u::l,h=>by
  simp only[mR] at h
  cases hu:ee u Γ with
  |none=>rw[hu] at h;exact Et Γ t v l h
  |some x=>
   rw[hu] at h
   simp only[ee] at h
   rcases tE t u with⟨e,ae⟩|⟨e,ae⟩
   · rw[ae] at h;rw[e,hu];exact h
   · rw[ae] at h;exact Et Γ t v l h
theorem Mod.mR{r:aY}{Γ:Env}(h:Mod r Γ)(l:List Nat):Mod r (mR Γ l):=λt v ba=>h t v (Et Γ t v l ba)
theorem tF{m:Nat}{env:List I}{r:aY}{Γ:Env}(hm:Mod r Γ){a:Acc}{v:I}(h:nH m env Γ a=some v):dx m env r a=v:=by
 cases a with
 |env j=>simp only[nH] at h;simp only[dx,h,Option.getD_some]
 |reg p=>simp only[nH] at h;simp only[dx];rw[<-J2 p];exact hm _ _ h
 |val x=>cases h;rfl
section
variable {P:Program}
theorem tG{o:Oper}{g:Operand->I}{h:J}{v:I}(ag:oA P o g h v):cH P o g h=.val v h:=by
 obtain⟨dst,op,type,pos,after,guard⟩:=o
 cases op<;>simp only[oA] at ag<;>(try exact ag.elim)
 case load t a=>
  split at ag
  · rename_i b off n al aT aN
    simp only[cH,al,aT,ag,fF]
  · rename_i b off n al aT aN
    split at ag
    · simp only[cH,al,aT,aN,ag]
    · exact ag.elim
  · exact ag.elim
 case binOp op t x y yt=>
  split at ag
  · rename_i k a ej b aa aS
    split at ag
    · simp only[cH,aa,aS,eJ,ag,fF]
    · simp only[cH,aa,aS,eJ,ag,fF]
    · rename_i hV ke
      split at ag
      · rename_i aq
        have e3:k=ej:=of_decide_eq_true aq
        simp only[cH,aa,aS,eJ]
        cases op<;>first|exact absurd rfl hV|exact absurd rfl ke|(simp only[if_pos e3,ag,fF])
      · exact ag.elim
  · rename_i a b aa aS
    simp only[cH,aa,aS,eJ,ag,fF]
  · simp only[cH,ag,fF]
 case unOp op t x=>
  split at ag
  · rename_i k n aa;simp only[cH,aa,ag]
  · rename_i k n aa;simp only[cH,aa,ag,fF]
  · exact ag.elim
 case slice t x aO af mx=>simp only[cH,ag,fF]
 case index t x i=>
  split at ag
  · rename_i s n hu aa af
    unfold gQ at ag
    simp only[cH,hu,aa,af]
    split at ag
    · rename_i fl ae;cases ag;simp only[ae]
    · cases ag
  · rename_i m e cs n hu aa af
    split at ag
    · rename_i sz bx
      simp only[cH,hu,aa,af,bx,if_pos ag.1,ag.2,fF]
    · exact ag.elim
  · exact ag.elim
 case indexAddr t x i=>
  split at ag
  · rename_i m e b off n hu aa af
    split at ag
    · rename_i sz bx
      simp only[cH,hu,aa,af,bx,if_pos ag.1,ag.2]
    · exact ag.elim
  · rename_i e b off m c n hu aa af
    split at ag
    · rename_i sz bx
      simp only[cH,hu,aa,af,bx,if_pos ag.1,ag.2]
    · exact ag.elim
  · exact ag.elim
 case lookup t x i ok=>simp only[cH,ag,fF]
 case entry it=>simp only[cH,ag,fF]
 case convert src dst x=>simp only[cH,ag]
 case call c=>
  split at ag
  · rename_i x t jt hF ba;simp only[cH,jt,hF,h6,ba,ag,fF]
  · rename_i x t jt hF ba;simp only[cH,jt,hF,h6,ba,ag,fF]
  · rename_i x l _ jt hF;simp only[cH,jt,hF,h6,ag,fF]
  · rename_i x l _ jt hF;simp only[cH,jt,hF,h6,ag,fF]
  · rename_i x t jt hF ba
    simp only[cH,jt,hF]
    simp only[h6,ba] at ag⊢
    exact ag
  · exact ag.elim
theorem J3:∀(n:Nat) (cs bO:List I),fT n [I.bad] cs=some bO->False
 |0,[],_,h=>by simp[fT] at h
 |0,_::_,_,h=>by simp[fT,I.cT] at h
 |_+1,[],_,h=>by simp[fT] at h
 |n+1,c::cs,bO,h=>by
  simp only[fT] at h
  split at h
  · rename_i r aj;exact J3 n cs r aj
  · cases h
theorem SP{h an:J}{b off:Nat}(hs:aP.storeCells h b off (I.cells .bad)=some an):False:=by
 unfold aP.storeCells at hs
 split at hs
 · split at hs
   · split at hs
     · rename_i aK;exact J3 _ _ _ aK
     · cases hs
   · cases hs
 · cases hs
theorem Eu{o:Oper}{g:Operand->I}{h an:J}{v:I}(ag:vw P o g h v an):cH P o g h=.val v an:=by
 obtain⟨dst,op,type,pos,after,guard⟩:=o
 cases op<;>simp only[vw] at ag<;>(try exact ag.elim)
 case store t a x=>
  split at ag
  · rename_i b off al
    obtain⟨ab,ad,rfl⟩:=ag
    simp only[cH,al]
    rw[ab]
    have ae:g x≠ .bad:=λae=>by
     rw[ae] at ad
     exact SP ad
    cases e4:g x<;>first|exact absurd e4 ae|(rw[e4] at ad;simp[ad,qf])
  · exact ag.elim
 case convert src dst x=>simp only[cH,ag]
 case mapUpdate t m k x=>obtain⟨ab,rfl⟩:=ag;simp only[cH,ab,qf]
 case insert t m k x=>obtain⟨ab,rfl⟩:=ag;simp only[cH,ab,qf]
 case mapEntry t m k=>simp only[cH,ag,ln]
 case entryStore t m s x=>obtain⟨ab,rfl⟩:=ag;simp only[cH,ab,qf]
 case next it isStr=>simp only[cH,ag,ln]
 case range t x=>
  split at ag
  · rename_i kt ji hu
    unfold A1 at ag
    split at ag
    · rename_i m al
      split at ag
      · rename_i es c hm
        cases ag
        simp only[cH,hu,al,hm]
      · cases ag
    · cases ag
  · exact ag.elim
 case makeSlice t l c=>
  unfold A0 at ag
  simp only[cH]
  split at ag
  · rename_i e oj c' hu aw x_
    split at ag
    · rename_i i z af a2
      simp only[hu,aw,x_,af,a2]
      split at ag
      · rename_i kx
        rw[if_pos kx]
        split at ag
        · rename_i b ak aN;cases ag;simp only[aN]
        · cases ag
      · cases ag
    · cases ag
  · cases ag
 case call c=>
  split at ag
  · rename_i x y t jt hF ba;simp only[cH,jt,hF,h6,ba,ag,ln]
  · rename_i x y t jt hF ba;simp only[cH,jt,hF,h6,ba,ag,ln]
  · rename_i x t jt hF ba;simp only[cH,jt,hF,h6,ba,ag,ln]
  · rename_i x y t jt hF ba;simp only[cH,jt,hF,h6,ba,ag,ln]
  · rename_i x y t jt hF ba;simp only[cH,jt,hF,h6,ba,ag,ln]
  · exact ag.elim
variable {inR:Bool} {call:aI->List I->J->av}
theorem J4{pos:String}{f:aI}{args:List I}{d:List bU}{q:bF}{h:J}{hs:List Hint}{y:g6 mS}(aa:A2 call pos f args d q h hs=.cO y)(ag:er y.cs):xc d q (call f args h)=y.res.res:=by
 unfold A2 at aa
 split at aa
 · cases aa;rw[ag.1];rfl
 · cases aa;rw[ag.1];rfl
 · cases aa
theorem SQ{o:Oper}{g:Operand->I}{d:List bU}{q:bF}{h:J}{hs:List Hint}{y:g6 mS}(aa:Ek P inR call o g d q h hs=.cO y)(ag:er y.cs):
  dO P inR call none o g d q h=y.res.res:=by
 unfold Ek at aa
 unfold dO
 simp only[ew]
 split at aa
 · cases aa
   rw[tG ag.1];rfl
 · split at aa
   · rename_i e x dv bu
     cases aa
     have ab:(g x).cells.all I.cT=true:=ag.1.h
     have he:o.op=.box e x:=by
      unfold JU at bu
      split at bu
      · split at bu
        · rename_i he;cases bu;exact he
        · cases bu
      · cases bu
     have:cH P o g h=.val (.ptr h.n 0) (h.push (.cells (g x).cells e .own 0 0)):=by
      unfold cH;rw[he];simp only[newRow,ab]
     rw[this];rfl
   · split at aa
     · split at aa
       · rename_i fm;cases aa;rw[fm];rfl
       · rename_i fm;cases aa;rw[fm];rfl
       · rename_i fm;rw[fm];exact J4 aa ag
       · rename_i fm;rw[fm];exact J4 aa ag
       · rename_i z fm
         split at aa
         · cases aa
         · cases aa;rw[fm];rfl
       · rename_i fm
         split at aa
         · cases aa
         · split at aa
           · cases aa;rw[fm];rfl
           · cases aa;rw[fm];rfl
           · cases aa;rw[fm];rfl
       · cases aa
     · split at aa
       · cases aa
         rw[tG ag.1];rfl
       · cases aa
     · split at aa
       · cases aa
         rw[Eu ag.1];rfl
       · cases aa
theorem J5{o:Oper}{g:Operand->I}{d:List bU}{q:bF}{h:J}{hs:List Hint}{y:g6 mS}(aa:A3 P inR call o g d q h hs=.cO y)(ag:er y.cs):
  dO P inR call none o g d q h=y.res.res:=by
 unfold A3 at aa
 cases aK:El o g d q h hs with
 |none=>rw[aK] at aa;exact SQ aa ag
 |some z=>
  rw[aK] at aa
  simp only at aa
  subst aa
  unfold El at aK
  split at aK
  · rename_i gl a b ft
    split at aK
    · rename_i fl al
      split at aK
      · cases aK
        obtain⟨rfl,_⟩:=ag
        unfold dO cH
        simp[ew,ft,al,mS.res]
      · cases aK
        obtain⟨rfl,_⟩:=ag
        unfold dO cH
        simp[ew,ft,al,mS.res]
      · cases aK
    · cases aK
  · cases aK
theorem vA{gd:Option (I×Bool)}(hw:ew gd=some true)(o:Oper)(g:Operand->I)(d:List bU)(q:bF)(h:J):dO P inR call gd o g d q h=dO P inR call none o g d q h:=by
 unfold dO
 rw[hw]
 rfl
theorem yj{gd:Option (I×Bool)}(hw:ew gd=some false)(o:Oper)(g:Operand->I)(d:List bU)(q:bF)(h:J):dO P inR call gd o g d q h=.ok (.aQ []) d q h:=by
 unfold dO
 simp only[hw]
theorem yk{gd:Option (I×Bool)}{o:Oper}{g:Operand->I}{d:List bU}{q:bF}{h:J}{hs:List Hint}{y:g6 mS}(aa:vx P inR call gd o g d q h hs=.cO y)(ag:er y.cs):
  dO P inR call gd o g d q h=y.res.res:=by
 unfold vx at aa
 split at aa
 · exact J5 aa ag
 · rename_i ads b
   split at aa
   · rename_i c hV
     split at aa
     · rename_i lT
       split at aa
       · rename_i s jX ke fj
         cases aa
         obtain⟨rfl,vB⟩:=ag
         rw[vA (by simp only[ew];rw[lT])]
         exact(J5 fj vB:)
       · cases aa
     · rename_i lT
       cases aa
       obtain⟨rfl,_⟩:=ag
       rw[yj (by simp only[ew];rw[lT])];rfl
   · cases aa
 · cases aa
   rw[yj rfl];rfl
 · cases aa
variable {need:Nat}
theorem Ba{m:Nat}{env:List I}{r:aY}{Γ:Env}(hm:Mod r Γ){loc:List (Nat×Acc)}{o:Oper}(aq:vy P need m env Γ loc o=true):∀x∈o.op.operands,dx m env r (cJ P need loc x)=k5 P need m env Γ loc x:=by
 intro x aa
 unfold vy at aq
 rw[List.all_eq_true] at aq
 have:=aq x (by simpa using aa)
 obtain⟨v,aC⟩:=Option.isSome_iff_exists.1 this
 unfold k5
 rw[aC,tF hm aC];rfl
theorem J6{r:aY}{Γ:Env}(hm:Mod r Γ):∀(l:List Step) (env:List I) (d:List bU) (q:bF) (h:J) (hs:List Hint) (y:g6 mA),A4 P need inR call Γ l env d q h hs=.cO y->er y.cs->
  ij P need inR call r l env d q h=y.res
 |[],env,d,q,h,hs,y,aa,ag=>by cases aa;rfl
 |s::rest,env,d,q,h,hs,y,aa,ag=>by
  simp only[A4] at aa
  split at aa
  · cases aa
  · rename_i aq
    split at aa
    · cases aa
    · rename_i gd gz
      have key:∀z,dO P inR call gd s.o (k5 P need s.m env Γ s.loc) d q h=z->ij P need inR call r (s::rest) env d q h=match z with
        |.ok v bd bk an=>ij P need inR call r rest (v::env) bd bk an
        |.b6 v bd bk an=>.b6 v bd bk an
        |.fail w=>.fail w:=λz a2=>by
       simp only[ij]
       rw[<-a2,<-tw (Ba hm aq)]
       unfold JV at gz
       cases D3:s.guard with
       |none=>rw[D3] at gz;cases gz;rfl
       |some p=>
        obtain⟨a,b⟩:=p
        rw[D3] at gz
        simp only at gz
        cases aC:nH s.m env Γ a with
        |none=>rw[aC] at gz;cases gz
        |some v=>rw[aC] at gz;cases gz;simp only[tF hm aC];rfl
      split at aa
      · rename_i v bd bk an jX hV fJ
        split at aa
        · rename_i z yl ke nt
          cases aa
          obtain⟨aH,a9⟩:=er.append ag
          have ab:=yk fJ aH
          have g7:dO P inR call gd s.o (k5 P need s.m env Γ s.loc) d q h=.ok v bd bk an:=ab
          rw[key _ g7]
          exact(J6 hm rest (v::env) bd bk an hV _ nt a9:)
        · cases aa
      · rename_i v bd bk an jX hV fJ
        cases aa
        have ab:=yk fJ ag
        have g7:dO P inR call gd s.o (k5 P need s.m env Γ s.loc) d q h=.b6 v bd bk an:=ab
        rw[key _ g7]
      · cases aa
theorem Bb{m:Nat}{env:List I}{fA:aY}{gB:Env}(hm:Mod fA gB):∀(l:List (Nat×Acc)) (r:aY) (Γ:Env),Mod r Γ->Mod (pd need m env fA l r) (qL need m env gB l Γ)
 |[],r,Γ,h=>h
 |(t,a)::l,r,Γ,h=>by
  have a7:=Bb (m:=m) (env:=env) hm l r Γ h
  simp only[pd,qL]
  cases Nat.testBit need t with
  |false=>exact a7
  |true=>
   simp only
   cases al:nH m env gB a with
   |some v=>simp only;rw[tF hm al];exact a7.put t v
   |none=>simp only;exact a7.del t _
theorem Ev:∀(l:List (Nat×Acc)) (r:aY) (Γ:Env),Mod r Γ->Mod (uV l r) (A5 l Γ)
 |[],r,Γ,h=>h
 |(t,a)::l,r,Γ,h=>(Ev l r Γ h).del t _
mutual
theorem tH:∀v:I,v.sound=true->I.beq v v=true
 |.bool b,_=>by simp[I.beq]
 |.int k n,_=>by simp[I.beq,a_]
 |.str s,_=>by simp[I.beq,oe]
 |.bb,_=>rfl
 |.ptr a i,_=>by simp[I.beq]
 |.a0,_=>rfl
 |.slice a i n c,_=>by cases c<;>simp[I.beq,b3.beq]
 |.h4,_=>rfl
 |.map a,_=>by simp[I.beq]
 |.fR,_=>rfl
 |.fn f a b,h=>by
  simp only[I.sound,Bool.and_eq_true] at h
  simp only[I.beq,ym a h.1,ym b h.2,Bool.and_true]
  simp
 |.dh a,_=>by simp[I.beq]
 |.e1,_=>rfl
 |.iface t v,h=>by
  simp only[I.sound] at h
  simp only[I.beq,tH v h,Bool.and_true]
  simp
 |.agg l,h=>by
  simp only[I.sound] at h
  simp only[I.beq,ym l h]
 |.aQ l,h=>by
  simp only[I.sound] at h
  simp only[I.beq,ym l h]
 |.bad,h=>by simp[I.sound] at h
theorem ym:∀l:List I,jL l=true->I.nk l l=true
 |[],_=>rfl
 |a::l,h=>by
  simp only[jL,Bool.and_eq_true] at h
  simp only[I.nk,tH a h.1,ym l h.2,Bool.and_true]
end
theorem Ew{ops:Array Oper}{r:aY}{Γ:Env}(hm:Mod r Γ){n:Nat}{env:List I}{s:DStep}{gd:Option (I×Bool)}(h:yh P need ops n env Γ s=some gd):gV P need ops r n env s=gd:=by
 unfold yh at h
 unfold gV
 split at h
 · rename_i al;rw[al];cases h;rfl
 · rename_i a b al
   rw[al]
   split at h
   · rename_i v aC
     cases h
     simp only[tF hm aC]
   · cases h
def SR(P:Program)(need:Nat)(inR:Bool)(call:aI->List I->J->av)(ops:Array Oper)(r:aY)(cE:Nat)(s:DStep)(st b2:j0):Prop:=
 ∀rest,gn P need inR call ops r cE (s::rest) st.env st.d st.q st.h st.bf=gn P need inR call ops r cE rest b2.env b2.d b2.q b2.h b2.bf
theorem J7{ops:Array Oper}{r:aY}{Γ:Env}(hm:Mod r Γ){cE:Nat}{s:DStep}{st:j0}{hs:List Hint}{y:g6 j0}(aa:A6 P need inR call ops Γ cE s st hs=.cO y)(ag:er y.cs):SR P need inR call ops r cE s st y.res:=by
 intro rest
 unfold A6 at aa
 split at aa
 · cases aa
 · rename_i aq
   have al:=Ba hm aq
   split at aa
   · cases aa
   · rename_i gd gz
     have ao:=Ew hm gz
     split at aa
     · rename_i g8
       have aT:=x4 (P:=P) (o:=s.o.op) (b:=cE+s.i) al
       simp only[gn,g8,ao]
       rw[aT]
       unfold J0 at aa
       split at aa
       · split at aa
         · cases aa
           have h9:=JZ ag.1
           simp only[ew,h9]
         · split at aa
           · rename_i v o h9
             cases aa
             simp only[ew,h9]
           · cases aa
       · split at aa
         · rename_i x c _ ju hV
           split at aa
           · rename_i Ex
             split at aa
             · rename_i v o h9
               cases aa
               obtain⟨rfl,_⟩:=ag
               simp only[ew,Ex,h9]
             · cases aa
           · rename_i Ex
             cases aa
             obtain⟨rfl,_⟩:=ag
             simp only[ew,Ex]
         · cases aa
       · cases aa
         simp only[ew]
       · cases aa
     · rename_i g8
       simp only[gn,g8,ao]
       rw[tw al]
       split at aa
       · rename_i v bd bk an jX hV fJ
         cases aa
         have ab:=yk fJ ag
         have g7:dO P inR call gd s.o (k5 P need s.i st.env Γ s.loc) st.d st.q st.h=.ok v bd bk an:=ab
         rw[g7]
       · cases aa
       · cases aa
     · rename_i g8
       split at aa
       · cases aa
       · rename_i lu
         simp only[gn,g8,ao]
         rw[tw al]
         split at aa
         · rename_i v bd bk an jX hV fJ
           cases aa
           have ab:=yk fJ ag
           have g7:dO P inR call gd s.o (k5 P need s.i st.env Γ s.loc) st.d st.q st.h=.ok v bd bk an:=ab
           rw[g7]
           cases ct:st.bf with
           |nil=>rfl
           |cons a l=>
            obtain⟨e,m,ak⟩:=a
            rw[ct] at lu
            simp only[tD] at lu
            simp only[lu]
         · cases aa
         · cases aa
theorem J8{ops:Array Oper}{r:aY}{Γ:Env}(hm:Mod r Γ){cE:Nat}:∀(l:List DStep) (st:j0) (hs:List Hint) (y:g6 j0),A7 P need inR call ops Γ cE l st hs=.cO y->er y.cs->
  gn P need inR call ops r cE l st.env st.d st.q st.h st.bf=.ok y.res.env y.res.d y.res.q y.res.h y.res.bf
 |[],st,hs,y,aa,ag=>by cases aa;rfl
 |s::rest,st,hs,y,aa,ag=>by
  simp only[A7] at aa
  split at aa
  · rename_i st1 jX hV ab
    split at aa
    · rename_i eN yl ke ad
      cases aa
      obtain⟨aH,a9⟩:=er.append ag
      rw[J7 hm ab aH rest]
      exact(J8 hm rest st1 hV ⟨eN,yl,ke⟩ ad a9:)
    · cases aa
  · cases aa
theorem SS{o:Oper}{g:Operand->I}{h:J}{v:I}(ag:er (yi P o g h v)):∃v' an,cH P o g h=.val v' an/\I.beq v' v=true:=by
 unfold yi at ag
 split at ag
 · rename_i x a b aK
   obtain⟨ab,ad,_⟩:=ag
   refine⟨v,h,?_,tH v ab⟩
   unfold J1 at aK
   split at aK
   · rename_i c cA hS a4
     split at aK
     · rename_i Jp Bc
       cases aK
       cases x<;>simp only[cH,a4,Bc]<;>rw[<-ad]<;>rfl
     · cases aK
   · cases aK
 split at ag
 · exact⟨v,h,tG ag.2.1,tH v ag.1⟩
 split at ag
 · exact⟨v,h,tG ag.2.1,tH v ag.1⟩
 · split at ag
   · rename_i v' an he
     obtain⟨ab,rfl,_⟩:=ag
     exact⟨v',an,he,tH v' ab⟩
   · exact ag.1.elim
theorem J9{ops:Array Oper}{r:aY}{Γ:Env}(hm:Mod r Γ){n:Nat}{env:List I}{s:DStep}{v:I}{h:J}(ag:er (En P need ops Γ n env s v h)):lP P need ops r n env s v h=true:=by
 unfold En at ag
 unfold lP
 split at ag
 · rename_i gd aq gz
   rw[Ew hm gz]
   have al:=Ba hm aq
   have key:er (yi P s.o (k5 P need n env Γ s.loc) h v)->(match cH P s.o (λx=>dx n env r (cJ P need s.loc x)) h with
     |.val v' _=>I.beq v' v
     |_=>false)=true:=λaw=>by
    rw[x3 s.o h al]
    obtain⟨v',an,aA,ay⟩:=SS aw
    rw[aA];exact ay
   split at ag
   · simp only[ew];exact key ag
   · rename_i x b
     simp only[ew]
     obtain⟨ag,_⟩:=ag
     unfold lookW at ag
     split at ag
     · rw[ag]
     · cases Dp:(x==b) with
       |false=>rfl
       |true=>exact key ag
   · rfl
   · exact ag.1.elim
 · exact ag.1.elim
theorem Bd{ops:Array Oper}{r:aY}{n:Nat}{env:List I}{s:DStep}{v:I}(dV:Option Nat)(h:J)(bf:nI):kX P need ops r n env s v dV h bf=
  ((match qM s dV bf with|true=>true|false=>lP P need ops r n env s v h)&&(match bf with|[]=>true|(e,_,an)::rest=>kX P need ops r n env s v (some e) an rest)):=by
 cases bf<;>(rw[kX.eq_def];rfl)
theorem Ey{ops:Array Oper}{r:aY}{Γ:Env}(hm:Mod r Γ){n:Nat}{env:List I}{s:DStep}{v:I}:∀(bf:nI) (dV:Option Nat) (h:J),er (vz P need ops Γ n env s v dV h bf)->kX P need ops r n env s v dV h bf=true
 |[],dV,h,ag=>by
  rw[Bd]
  unfold vz at ag
  obtain⟨aH,_⟩:=er.append ag
  cases ae:qM s dV [] with
  |true=>rfl
  |false=>rw[ae] at aH;simp only[Bool.and_true];exact J9 hm aH
 |(e,m,an)::rest,dV,h,ag=>by
  rw[Bd]
  unfold vz at ag
  obtain⟨aH,a9⟩:=er.append ag
  have a7:=Ey hm rest (some e) an a9
  cases ae:qM s dV ((e,m,an)::rest) with
  |true=>simp only[Bool.true_and];exact a7
  |false=>
   rw[ae] at aH
   simp only
   rw[J9 hm aH,Bool.true_and];exact a7
theorem J_{ops:Array Oper}{r:aY}{Γ:Env}(hm:Mod r Γ){n:Nat}{env:List I}{h:J}{bf:nI}:∀(l:List DStep),er (A9 P need ops Γ n env h bf l)->lo P need ops r n env none h bf l=true
 |[],_=>rfl
 |s::rest,ag=>by
  simp only[A9] at ag
  obtain⟨aH,a9⟩:=er.append ag
  simp only[lo]
  rw[J_ hm rest a9,Bool.and_true]
  cases ab:Nat.blt s.i n with
  |false=>rfl
  |true=>
   rw[ab] at aH
   cases ad:kindOf P s.o.op with
   |pure=>rw[ad] at aH;exact Ey hm bf none h aH
   |alloc=>rfl
   |ek=>rfl
theorem SU{ops:Array Oper}{r:aY}{Γ:Env}(hm:Mod r Γ){cE:Nat}{s:DStep}{rest:List DStep}{st:j0}{hs:List Hint}{y:g6 (I×j0)}(aa:Em P need inR call ops Γ s rest st hs=.cO y)(ag:er y.cs):
  gn P need inR call ops r cE (s::rest) st.env st.d st.q st.h st.bf=.b6 y.res.1 y.res.2.env y.res.2.d y.res.2.q y.res.2.h y.res.2.bf:=by
 unfold Em at aa
 split at aa
 · cases aa
 · rename_i aq
   have al:=Ba hm aq
   split at aa
   · cases aa
   · rename_i gd gz
     have ao:=Ew hm gz
     split at aa
     · rename_i g8
       split at aa
       · cases aa
       · rename_i lu
         simp only[gn,g8,ao]
         rw[tw al]
         split at aa
         · rename_i v bd bk an jX hV fJ
           split at aa
           · rename_i en
             cases aa
             have ab:=yk fJ ag
             have g7:dO P inR call gd s.o (k5 P need s.i st.env Γ s.loc) st.d st.q st.h=.b6 v bd bk an:=ab
             rw[g7]
             cases ct:st.bf with
             |nil=>simp only[en]
             |cons a l=>
              obtain⟨e,m,ak⟩:=a
              rw[ct] at lu
              simp only[tD] at lu
              simp only[lu,en]
           · cases aa
         · cases aa
     · cases aa
theorem Ka{ops:Array Oper}{r:aY}{Γ:Env}(hm:Mod r Γ){cE:Nat}:∀(l:List DStep) (st:j0) (hs:List Hint) (y:g6 (I×j0)),A8 P need inR call ops Γ cE l st hs=.cO y->er y.cs->
  gn P need inR call ops r cE l st.env st.d st.q st.h st.bf=.b6 y.res.1 y.res.2.env y.res.2.d y.res.2.q y.res.2.h y.res.2.bf
 |[],st,hs,y,aa,ag=>by cases aa
 |s::rest,st,hs,y,aa,ag=>by
  simp only[A8] at aa
  split at aa
  · rename_i ju ab
    cases aa
    exact SU hm ab ag
  · split at aa
    · rename_i st1 jX hV ab
      split at aa
      · rename_i eN yl ke ad
        cases aa
        obtain⟨aH,a9⟩:=er.append ag
        rw[J7 hm ab aH rest]
        exact(Ka hm rest st1 hV ⟨eN,yl,ke⟩ ad a9:)
      · cases aa
    · cases aa
theorem Kb{ops:Array Oper}{r:aY}{Γ:Env}(hm:Mod r Γ){n:Nat}{env:List I}{last:Option Nat}{h:J}{bf:nI}:∀(l:List DStep),er (A_ P need ops Γ n env last h bf l)->lo P need ops r n env last h bf l=true
 |[],_=>rfl
 |s::rest,ag=>by
  simp only[A_] at ag
  obtain⟨aH,a9⟩:=er.append ag
  simp only[lo]
  rw[Kb hm rest a9,Bool.and_true]
  cases ab:Nat.blt s.i n with
  |false=>rfl
  |true=>
   rw[ab] at aH
   cases ad:kindOf P s.o.op with
   |pure=>rw[ad] at aH;exact Ey hm bf last h aH
   |alloc=>rfl
   |ek=>rfl
theorem SV{id:Nat}{ops:Array Oper}{rd:Option Nat}{st:ah}{hs:List Hint}{y:g6 (bn×ah)}(aa:Eo P need rd.isSome call ops st hs=.cO y)(ag:er y.cs):c5 P need rd call (.region id ops true) st y.res.1 y.res.2:=by
 unfold Eo at aa
 split at aa
 · rename_i v env d q h e m h0 bf jX hV ao
   cases aa
   obtain⟨aH,a9⟩:=er.append ag
   intro r hm
   have ab:=Ka hm _ _ _ _ ao aH
   have ad:=Kb hm _ a9
   simp only at ab
   refine⟨_,?_,Ev _ _ _ hm⟩
   have g7:gn P need rd.isSome call ops r st.h.n (e7 ops.toList 0 [] []) [] st.d st.q ⟨st.h.t,st.h.n+ops.size⟩ []=.b6 v env d q h ((e,m,h0)::bf):=ab
   simp only[dy,sY,g7,ad,mB]
 · cases aa
 · cases aa
theorem SW{id:Nat}{ops:Array Oper}{rd:Option Nat}{st:ah}{hs:List Hint}{y:g6 (bn×ah)}(aa:Ep P need rd.isSome call ops st hs=.cO y)(ag:er y.cs):c5 P need rd call (.region id ops true) st y.res.1 y.res.2:=by
 unfold Ep at aa
 split at aa
 · rename_i env d q h bf jX hV ao
   cases aa
   obtain⟨aH,a9⟩:=er.append ag
   intro r hm
   have ab:=J8 hm _ _ _ _ ao aH
   have ad:=J_ hm _ a9
   simp only at ab
   refine⟨_,?_,Bb hm _ _ _ hm⟩
   have g7:gn P need rd.isSome call ops r st.h.n (e7 ops.toList 0 [] []) [] st.d st.q ⟨st.h.t,st.h.n+ops.size⟩ []=.ok env d q h bf:=ab
   simp only[dy,sY,g7,ad,mB]
 · exact SV aa ag
variable {rd:Option Nat}
theorem pD:∀(c:Code) (st:ah) (hs:List Hint) (y:g6 (bn×ah)),lv P need rd call c st hs=.cO y->er y.cs->c5 P need rd call c st y.res.1 y.res.2
 |.skip,st,hs,y,aa,ag=>by cases aa;exactλr aj=>⟨r,rfl,aj⟩
 |.label _,st,hs,y,aa,ag=>by cases aa;exactλr aj=>⟨r,rfl,aj⟩
 |.exit id,st,hs,y,aa,ag=>by cases aa;exactλr aj=>⟨r,rfl,aj⟩
 |.ret,st,hs,y,aa,ag=>by cases aa;exactλr aj=>⟨r,rfl,aj⟩
 |.scope b,st,hs,y,aa,ag=>pD b st hs y aa ag
 |.region id ops draw,st,hs,y,aa,ag=>by
  simp only[lv] at aa
  cases draw with
  |true=>exact SW aa ag
  |false=>
   simp only at aa
   split at aa
   · rename_i x jX hV ct
     split at aa
     · rename_i r1 Ez
       cases aa
       intro r aj
       have ab:=J6 aj _ _ _ _ _ _ _ ct ag
       simp only at ab
       simp only[dy,ab]
       cases x with
       |ok env d q h=>cases Ez;exact⟨_,rfl,Bb aj _ _ _ aj⟩
       |b6 v d q h=>cases Ez;exact⟨_,rfl,Ev _ _ _ aj⟩
       |fail w=>cases Ez
     · cases aa
   · cases aa
 |.seq a b,st,hs,y,aa,ag=>by
  simp only[lv] at aa
  split at aa
  · rename_i st1 jX hV aT
    split at aa
    · rename_i r2 yl ke ae
      cases aa
      obtain⟨aH,a9⟩:=er.append ag
      intro r aj
      obtain⟨r1,ab,aZ⟩:=pD a st hs _ aT aH r aj
      obtain⟨r2,ad,bQ⟩:=pD b st1 hV _ ae a9 r1 aZ
      exact⟨r2,by simp only at ab ad;simp only[dy,ab,qg,ad],bQ⟩
    · cases aa
  · rename_i cS
    intro r aj
    obtain⟨r1,ab,aZ⟩:=pD a st hs y aa ag r aj
    refine⟨r1,?_,aZ⟩
    simp only[dy,ab]
    refine tn (λcF=>?_)
    obtain⟨⟨aA,st1⟩,jX,hV⟩:=y
    simp only at cF
    subst cF
    exact cS _ _ _ aa
 |.cond c a b,st,hs,y,aa,ag=>by
  simp only[lv] at aa
  split at aa
  · rename_i x al
    split at aa
    · split at aa
      · rename_i r1 jX hV aT
        cases aa
        obtain⟨rfl,aH⟩:=ag
        intro r aj
        obtain⟨r1,ab,aZ⟩:=pD a st _ _ aT aH r aj
        exact⟨r1,by simp only at ab;simp only[dy,tF aj al,ab],aZ⟩
      · cases aa
    · split at aa
      · rename_i r1 jX hV aT
        cases aa
        obtain⟨rfl,aH⟩:=ag
        intro r aj
        obtain⟨r1,ab,aZ⟩:=pD b st _ _ aT aH r aj
        exact⟨r1,by simp only at ab;simp only[dy,tF aj al,ab],aZ⟩
      · cases aa
    · cases aa
  · cases aa
 |.block id b,st,hs,y,aa,ag=>by
  simp only[lv] at aa
  split at aa
  · rename_i i st1 jX hV ae
    split at aa
    · rename_i af
      cases aa
      obtain rfl:=Nat.eq_of_beq_eq_true af
      intro r aj
      obtain⟨r1,ab,aZ⟩:=pD b st hs _ ae ag r aj
      exact⟨r1,by simp only at ab;simp only[dy,ab,if_true],aZ⟩
    · rename_i af
      cases aa
      intro r aj
      obtain⟨r1,ab,aZ⟩:=pD b st hs _ ae ag r aj
      have cS:¬i=id:=by intro cF;subst cF;simp at af
      exact⟨r1,by simp only at ab;simp only[dy,ab,if_neg cS],aZ⟩
  · rename_i cS
    intro r aj
    obtain⟨r1,ab,aZ⟩:=pD b st hs y aa ag r aj
    refine⟨r1,?_,aZ⟩
    obtain⟨⟨aA,st1⟩,jX,hV⟩:=y
    simp only at ab
    simp only[dy,ab]
    cases aA<;>first|rfl|exact absurd aa (cS _ _ _ _)
 |.loop b,st,hs,y,aa,ag=>by
  simp only[lv] at aa
  split at aa
  · cases aa;exact ag.1
  · cases aa
 |.rangeFunc f ps as cn,st,hs,y,aa,ag=>by
  simp only[lv] at aa
  split at aa
  · cases aa;exact ag.1
  · cases aa
 |.goto _,st,hs,y,aa,ag=>by cases aa
 |.refuse _,st,hs,y,aa,ag=>by cases aa
end
end aP
namespace aP
theorem vC{z:Bool}(h:z=true):(Decidable.rec (motive:=λ_=>Bool) (λh=>(λx=>false) h) (λh=>(λx=>true) h) (instDecidableEqBool z false):Bool)=false:=by subst h;rfl
open Go
def sub:Code->List Nat->Code
 |c,[]=>c
 |.seq a _,0::l=>sub a l
 |.seq _ b,_::l=>sub b l
 |.cond _ a _,0::l=>sub a l
 |.cond _ _ b,_::l=>sub b l
 |.block _ b,_::l=>sub b l
 |.loop b,_::l=>sub b l
 |.scope b,_::l=>sub b l
 |.rangeFunc _ _ a _,0::l=>sub a l
 |.rangeFunc _ _ _ b,_::l=>sub b l
 |c,_::_=>c
def e9(fn:Func):Code:=fn.body.getD .skip
def b_:Env->Env->Prop
 |[],_=>True
 |(t,v)::l,Γ=>ee t Γ=some v/\b_ l Γ
theorem b_.ok:∀{Γ2 Γ:Env},b_ Γ2 Γ->∀t v,ee t Γ2=some v->ee t Γ=some v
 |[],Γ,_,t,v,h=>by simp[ee] at h
 |(u,x)::l,Γ,⟨ab,ad⟩,t,v,h=>by
  simp only[ee] at h
  rcases tE t u with⟨e,ae⟩|⟨e,ae⟩
  · rw[ae] at h;cases h;rw[e];exact ab
  · rw[ae] at h;exact b_.ok ad t v h
theorem Mod.sub{r:aY}{Γ Γ2:Env}(h:Mod r Γ)(hs:b_ Γ2 Γ):Mod r Γ2:=λt v ba=>h t v (hs.ok t v ba)
section
variable {P:Program} {need:Nat} {rd:Option Nat} {call:aI->List I->J->av}
def EA(b8:List Nat):k4 (g6 (bn×ah))->Option (g6 (bn×ah))
 |.cO ⟨(e,⟨Γ,d,q,h⟩),cs,[]⟩=>some ⟨(e,⟨mR Γ b8,d,q,h⟩),cs,[]⟩
 |_=>none
theorem SX{c:Code}{st:ah}{hs:List Hint}{e:bn}{b2:ah}{cs:List Prop}(b8:List Nat)(aa:EA b8 (lv P need rd call c st hs)=some ⟨(e,b2),cs,[]⟩)(ag:er cs):c5 P need rd call c st e b2:=by
 unfold EA at aa
 split at aa
 · rename_i aA hp d1 a8 ab jX SY
   cases aa
   intro r aj
   obtain⟨r1,ab,aZ⟩:=pD c st hs _ SY ag r aj
   exact⟨r1,ab,aZ.mR b8⟩
 · cases aa
theorem c5.pre{c:Code}{st st1 b2:ah}{e:bn}(h:c5 P need rd call c st e b2)(hs:b_ st.Γ st1.Γ)(ao:st1.d=st.d)(aM:st1.q=st.q)(ak:st1.h=st.h):c5 P need rd call c st1 e b2:=by
 intro r aj
 obtain⟨r1,ab,aZ⟩:=h r (aj.sub hs)
 exact⟨r1,by rw[ao,aM,ak];exact ab,aZ⟩
theorem c5.post{c:Code}{st b2:ah}{Γ2:Env}{e:bn}(h:c5 P need rd call c st e b2)(hs:b_ Γ2 b2.Γ):c5 P need rd call c st e {b2 with Γ:=Γ2}:=by
 intro r aj
 obtain⟨r1,ab,aZ⟩:=h r aj
 exact⟨r1,ab,aZ.sub hs⟩
def oB(P:Program)(need:Nat)(rd:Option Nat)(call:aI->List I->J->av)(b:Code)(n:Nat)(st:ah)(e:bn)(b2:ah):Prop:=
 ∀r,Mod r st.Γ->∃r',pe (dy P need rd call b) n r st.d st.q st.h=.ok e r' b2.d b2.q b2.h/\Mod r' b2.Γ
theorem oB.step{b:Code}{n:Nat}{st st1 b2:ah}{e:bn}(h:c5 P need rd call b st .nrm st1)(ad:oB P need rd call b n st1 e b2):oB P need rd call b (n+1) st e b2:=by
 intro r aj
 obtain⟨r1,aA,aZ⟩:=h r aj
 obtain⟨r2,ay,bQ⟩:=ad r1 aZ
 exact⟨r2,by simp only[pe,aA,qg,ay],bQ⟩
theorem oB.exit{b:Code}{n:Nat}{st b2:ah}{e:bn}(h:c5 P need rd call b st e b2)(he:e≠ .nrm):oB P need rd call b (n+1) st e b2:=by
 intro r aj
 obtain⟨r1,aA,aZ⟩:=h r aj
 exact⟨r1,by simp only[pe,aA];exact tn he,aZ⟩
theorem EB{f:aY->List bU->bF->J->jG}:∀{n m:Nat},n<=m->∀{r d q h e r' bd bk an},pe f n r d q h=.ok e r' bd bk an->pe f m r d q h=.ok e r' bd bk an
 |0,_,_,_,_,_,_,_,_,_,_,_,h=>by cases h
 |n+1,0,hle,_,_,_,_,_,_,_,_,_,_=>by omega
 |n+1,m+1,hle,r,d,q,h,e,r',bd,bk,an,aa=>by
  simp only[pe] at aa⊢
  cases hf:f r d q h with
  |fail w=>rw[hf] at aa;cases aa
  |ok aA r1 d1 a8 ab=>
   rw[hf] at aa
   cases aA<;>simp only[qg] at aa⊢ <;>first|exact EB (by omega) aa|exact aa
theorem oB.run{b:Code}{n:Nat}{st b2:ah}{e:bn}(h:oB P need rd call b n st e b2)(aN:n<=100000):c5 P need rd call (.loop b) st e b2:=by
 intro r aj
 obtain⟨r1,aA,aZ⟩:=h r aj
 exact⟨r1,by simp only[dy];exact EB aN aA,aZ⟩
def nJ:Nat->List I->Env
 |_,[]=>[]
 |i,v::l=>(i,v)::nJ (i+1) l
theorem Kc(t:Nat)(v:I):∀(l:List I) (i:Nat),ee t (nJ i l)=some v->i<=t/\t<i+l.length/\l[t-i]? =some v
 |[],i,h=>by simp[nJ,ee] at h
 |x::l,i,h=>by
  simp only[nJ,ee] at h
  rcases tE t i with⟨e,ae⟩|⟨e,ae⟩
  · rw[ae] at h;cases h;subst e;simp
  · rw[ae] at h
    obtain⟨ab,ad,ar⟩:=Kc t v l (i+1) h
    refine⟨by omega,by simp;omega,?_⟩
    have:t-i=(t-(i+1))+1:=by omega
    rw[this];simpa using ar
theorem Be(args:List I):Mod (np 0 args .leaf) (nJ 0 args):=by
 intro t v h
 obtain⟨ab,ad,ar⟩:=Kc t v args 0 h
 rw[DG,if_pos ⟨ab,ad⟩,ar];rfl
def eC(P:Program)(need:Nat)(Γ:Env)(h:J)(x:ResultVar):Option I:=
 match x with
 |.tmp t=>match Nat.testBit need t with
  |true=>ee t Γ
  |false=>none
 |.cell t ty=>match Nat.testBit need t with
  |true=>match ee t Γ with
   |none=>none
   |some p=>match p,qc P ty,dn P ty with
    |.ptr b off,some true,some n=>(match loadCells h b off n with|some cs=>some (.agg cs)|none=>none)
    |.ptr b off,some false,_=>au h b off
    |_,_,_=>none
  |false=>none
theorem SZ{Γ:Env}{r:aY}(hm:Mod r Γ){h:J}{x:ResultVar}{v:I}(aa:eC P need Γ h x=some v):rf P need r h x=some v:=by
 cases x with
 |tmp t=>
  simp only[eC,rf] at aa⊢
  split at aa
  · rename_i ae
    rw[ae];simp only[hm t v aa]
  · cases aa
 |cell t ty=>
  simp only[eC,rf] at aa⊢
  split at aa
  · rename_i ae
    rw[ae]
    simp only
    cases aw:ee t Γ with
    |none=>rw[aw] at aa;simp at aa
    |some p=>rw[aw] at aa;rw[hm t p aw];exact aa
  · cases aa
def r0(P:Program)(need:Nat)(fn:Func)(Γ:Env)(h:J):Option I:=
 match pf (eC P need Γ h) fn.results.toList with
 |some [v]=>some v
 |some vs=>some (.aQ vs)
 |none=>none
theorem Kd{Γ:Env}{r:aY}(hm:Mod r Γ){h:J}:∀(l:List ResultVar) (vs:List I),pf (eC P need Γ h) l=some vs->pf (rf P need r h) l=some vs
 |[],vs,aa=>aa
 |x::l,vs,aa=>by
  simp only[pf] at aa⊢
  cases ab:eC P need Γ h x with
  |none=>rw[ab] at aa;simp at aa
  |some v=>
   rw[ab] at aa
   cases ad:pf (eC P need Γ h) l with
   |none=>rw[ad] at aa;simp at aa
   |some ws=>
    rw[ad] at aa
    rw[SZ hm ab,Kd hm l ws ad];exact aa
theorem EC{Γ:Env}{r:aY}(hm:Mod r Γ){h:J}{fn:Func}{v:I}(aa:r0 P need fn Γ h=some v):qh P need fn r h=some v:=by
 unfold r0 at aa
 unfold qh
 cases aT:pf (eC P need Γ h) fn.results.toList with
 |none=>rw[aT] at aa;cases aa
 |some vs=>
  rw[aT] at aa
  rw[Kd hm _ _ aT];exact aa
variable {intr:Nat->List I->J->Option (I×J)}
theorem S0{f:Nat}{fn:Func}{c:Code}{n:Nat}{args:List I}{h:J}(hf:P.funcs[f]? =some fn)(ae:fn.body=some c)(aN:dL fn=need)(af:intr f args h=none)(hle:Nat.ble args.length fn.ntmps=true)
  {e:bn}{Γ:Env}{q:bF}{an:J}(eX:c5 P need none (fa P intr n) c ⟨nJ 0 args,[],.none,h⟩ e ⟨Γ,[],q,an⟩)(he:e=.ret\/e=.nrm){v:I}(iV:r0 P need fn Γ an=some v):
  fa P intr (n+1) (.fn f) args h=.ret v an:=by
 subst aN
 obtain⟨r1,ab,aZ⟩:=eX _ (Be args)
 have aj:=EC aZ iV
 simp only[fa,af,qi,hf,ae,mC,hle,ab]
 rcases he with rfl|rfl<;>simp only[pg,jj,aj]
theorem S1{f:Nat}{fn:Func}{c:Code}{n:Nat}{args:List I}{h:J}(hf:P.funcs[f]? =some fn)(ae:fn.body=some c)(aN:dL fn=need)(af:intr f args h=none)(hle:Nat.ble args.length fn.ntmps=true)
  {v:I}{Γ:Env}{q:bF}{an:J}(eX:c5 P need none (fa P intr n) c ⟨nJ 0 args,[],.none,h⟩ (.b6 v) ⟨Γ,[],q,an⟩):
  fa P intr (n+1) (.fn f) args h=.b6 v an:=by
 subst aN
 obtain⟨r1,ab,aZ⟩:=eX _ (Be args)
 simp only[fa,af,qi,hf,ae,mC,hle,ab,pg,jj]
abbrev aL(P:Program)(fn:Func)(rd:Option Nat)(call:aI->List I->J->av)(path:List Nat)(st:ah)(e:bn)(b2:ah):Prop:=c5 P (dL fn) rd call (sub (e9 fn) path) st e b2
abbrev S2(P:Program)(fn:Func)(rd:Option Nat)(call:aI->List I->J->av)(path:List Nat)(st:ah)(hs:List Hint):k4 (g6 (bn×ah)):=lv P (dL fn) rd call (sub (e9 fn) path) st hs
theorem bI{fn:Func}{path:List Nat}{st:ah}{hs:List Hint}{e:bn}{b2:ah}{cs:List Prop}(b8:List Nat)(aa:EA b8 (S2 P fn rd call path st hs)=some ⟨(e,b2),cs,[]⟩)(ag:er cs):aL P fn rd call path st e b2:=SX b8 aa ag
end
end aP
namespace aP
open Go
theorem Ke:∀(c:Code) (x:Nat) (l:List Nat),sub c (x::l)=sub (sub c [x]) l
 |.seq a b,0,l=>by simp[sub]
 |.seq a b,_+1,l=>by simp[sub]
 |.cond _ a b,0,l=>by simp[sub]
 |.cond _ a b,_+1,l=>by simp[sub]
 |.rangeFunc _ _ a b,0,l=>by simp[sub]
 |.rangeFunc _ _ a b,_+1,l=>by simp[sub]
 |.block _ b,x,l=>by simp[sub]
 |.loop b,x,l=>by simp[sub]
 |.scope b,x,l=>by simp[sub]
 |.skip,x,l=>by cases l<;>simp[sub]
 |.region _ _ _,x,l=>by cases l<;>simp[sub]
 |.exit _,x,l=>by cases l<;>simp[sub]
 |.ret,x,l=>by cases l<;>simp[sub]
 |.label _,x,l=>by cases l<;>simp[sub]
 |.goto _,x,l=>by cases l<;>simp[sub]
 |.refuse _,x,l=>by cases l<;>simp[sub]
theorem jv(c:Code):∀(p l:List Nat),sub c (p++l)=sub (sub c p) l
 |[],l=>by simp[sub]
 |x::p,l=>by rw[List.cons_append,Ke,jv (sub c [x]) p l,<-Ke]
def tI:Code->Bool
 |.seq _ _=>true
 |_=>false
def vD(id:Nat):Code->Bool
 |.block i _=>Nat.beq i id
 |_=>false
def yn:Code->Bool
 |.loop _=>true
 |_=>false
theorem Bf{c:Code}(h:tI c=true):c=.seq (sub c [0]) (sub c [1]):=by
 cases c<;>simp[tI,sub] at h⊢
theorem Bg{c:Code}{id:Nat}(h:vD id c=true):c=.block id (sub c [0]):=by
 cases c<;>simp only[vD] at h<;>(try (cases h;done))
 obtain rfl:=Nat.eq_of_beq_eq_true h
 simp[sub]
theorem Kf{c:Code}(h:yn c=true):c=.loop (sub c [0]):=by
 cases c<;>simp[yn,sub] at h⊢
section
variable {P:Program} {rd:Option Nat} {call:aI->List I->J->av} {fn:Func}
theorem c5.seq{need:Nat}{a b:Code}{st st1 kC:ah}{e:bn}(ab:c5 P need rd call a st .nrm st1)(ad:c5 P need rd call b st1 e kC):c5 P need rd call (.seq a b) st e kC:=by
 intro r aj
 obtain⟨r1,aA,aZ⟩:=ab r aj
 obtain⟨r2,ay,bQ⟩:=ad r1 aZ
 exact⟨r2,by simp only[dy,aA,qg,ay],bQ⟩
theorem c5.iM{need:Nat}{a b:Code}{st st1:ah}{e:bn}(ab:c5 P need rd call a st e st1)(he:e≠ .nrm):c5 P need rd call (.seq a b) st e st1:=by
 intro r aj
 obtain⟨r1,aA,aZ⟩:=ab r aj
 exact⟨r1,by simp only[dy,aA];exact tn he,aZ⟩
theorem c5.block{need:Nat}{id:Nat}{b:Code}{st st1:ah}(ab:c5 P need rd call b st (.exit id) st1):c5 P need rd call (.block id b) st .nrm st1:=by
 intro r aj
 obtain⟨r1,aA,aZ⟩:=ab r aj
 exact⟨r1,by simp only[dy,aA,if_true],aZ⟩
theorem c5.tJ{need:Nat}{id:Nat}{b:Code}{st st1:ah}{e:bn}(ab:c5 P need rd call b st e st1)(he:e≠ .exit id):c5 P need rd call (.block id b) st e st1:=by
 intro r aj
 obtain⟨r1,aA,aZ⟩:=ab r aj
 refine⟨r1,?_,aZ⟩
 simp only[dy,aA]
 cases e<;>first|rfl|(rename_i i;exact if_neg λh=>he (by rw[h]))
theorem aL.seq{p:List Nat}{st st1 kC:ah}{e:bn}(hs:tI (sub (e9 fn) p)=true)(ab:aL P fn rd call (p++[0]) st .nrm st1)(ad:aL P fn rd call (p++[1]) st1 e kC):aL P fn rd call p st e kC:=by
 unfold aL at*
 rw[Bf hs]
 rw[jv] at ab ad
 exact ab.seq ad
theorem aL.iM{p:List Nat}{st st1:ah}{e:bn}(hs:tI (sub (e9 fn) p)=true)(ab:aL P fn rd call (p++[0]) st e st1)(he:e≠ .nrm):aL P fn rd call p st e st1:=by
 unfold aL at*
 rw[Bf hs]
 rw[jv] at ab
 exact ab.iM he
theorem aL.block{p:List Nat}{id:Nat}{st st1:ah}(hs:vD id (sub (e9 fn) p)=true)(ab:aL P fn rd call (p++[0]) st (.exit id) st1):aL P fn rd call p st .nrm st1:=by
 unfold aL at*
 rw[Bg hs]
 rw[jv] at ab
 exact ab.block
theorem aL.tJ{p:List Nat}{id:Nat}{st st1:ah}{e:bn}(hs:vD id (sub (e9 fn) p)=true)(ab:aL P fn rd call (p++[0]) st e st1)(he:e≠ .exit id):aL P fn rd call p st e st1:=by
 unfold aL at*
 rw[Bg hs]
 rw[jv] at ab
 exact ab.tJ he
def fx(P:Program)(fn:Func)(rd:Option Nat)(call:aI->List I->J->av)(p:List Nat)(n:Nat)(st:ah)(e:bn)(b2:ah):Prop:=oB P (dL fn) rd call (sub (e9 fn) (p++[0])) n st e b2
theorem fx.step{p:List Nat}{n:Nat}{st st1 b2:ah}{e:bn}(h:aL P fn rd call (p++[0]) st .nrm st1)(ad:fx P fn rd call p n st1 e b2):fx P fn rd call p (n+1) st e b2:=oB.step h ad
theorem fx.exit{p:List Nat}{n:Nat}{st b2:ah}{e:bn}(h:aL P fn rd call (p++[0]) st e b2)(he:e≠ .nrm):fx P fn rd call p (n+1) st e b2:=oB.exit h he
theorem fx.run{p:List Nat}{n:Nat}{st b2:ah}{e:bn}(hs:yn (sub (e9 fn) p)=true)(h:fx P fn rd call p n st e b2)(aN:n<=100000):aL P fn rd call p st e b2:=by
 unfold aL
 rw[Kf hs]
 unfold fx at h
 rw[jv] at h
 exact oB.run h aN
theorem eR{intr:Nat->List I->J->Option (I×J)}{f:Nat}{n:Nat}{args:List I}{h:J}(hf:P.funcs[f]? =some fn)(ae:fn.body.isSome=true)(af:intr f args h=none)(hle:Nat.ble args.length fn.ntmps=true)
  {e:bn}{Γ:Env}{q:bF}{an:J}(eX:aL P fn none (fa P intr n) [] ⟨nJ 0 args,[],.none,h⟩ e ⟨Γ,[],q,an⟩)(he:e=.ret\/e=.nrm){v:I}(iV:r0 P (dL fn) fn Γ an=some v):
  fa P intr (n+1) (.fn f) args h=.ret v an:=by
 obtain⟨c,ag⟩:=Option.isSome_iff_exists.1 ae
 have qN:e9 fn=c:=by simp[e9,ag]
 unfold aL at eX
 rw[qN] at eX
 simp only[sub] at eX
 exact S0 hf ag rfl af hle eX he iV
theorem S3{intr:Nat->List I->J->Option (I×J)}{f:Nat}{n:Nat}{args:List I}{h:J}(hf:P.funcs[f]? =some fn)(ae:fn.body.isSome=true)(af:intr f args h=none)(hle:Nat.ble args.length fn.ntmps=true)
  {v:I}{Γ:Env}{q:bF}{an:J}(eX:aL P fn none (fa P intr n) [] ⟨nJ 0 args,[],.none,h⟩ (.b6 v) ⟨Γ,[],q,an⟩):fa P intr (n+1) (.fn f) args h=.b6 v an:=by
 obtain⟨c,ag⟩:=Option.isSome_iff_exists.1 ae
 have qN:e9 fn=c:=by simp[e9,ag]
 unfold aL at eX
 rw[qN] at eX
 simp only[sub] at eX
 exact S1 hf ag rfl af hle eX
theorem kf{i m:Nat}(af:i<m)(hm:m<=1000000000000):arith BinOp.add IntKind.i64 (Int.ofNat i) (Int.ofNat 1)=some (I.int IntKind.i64 (Int.ofNat (i+1))):=by
 have h:=rv (i+1) (by omega)
 have e:Int.ofNat i+Int.ofNat 1=((i+1:Nat):Int):=rfl
 simp only[arith,e,h];rfl
theorem dT{a b:Nat}(h:a<b):bM (Int.ofNat a) (Int.ofNat b)=true:=by simp[bM];omega
theorem eZ{a b:Nat}(h:¬a<b):bM (Int.ofNat a) (Int.ofNat b)=false:=by simp[bM];omega
theorem nK{s:List UInt8}{i:Nat}(h:i<s.length):gQ i s=some (.int .u8 (Int.ofNat (s[i]).toNat)):=by
 unfold gQ
 rw[ql,List.getElem?_eq_getElem h]
end
end aP
namespace aP
open Go
structure Ext(B:Nat)(h an:J):Prop where
 n:h.n<=an.n
 get:∀b,b<B->an.get b=h.get b
theorem Ext.refl(B:Nat)(h:J):Ext B h h:=⟨Nat.le_refl _,λ_ _=>rfl⟩
theorem Ext.trans{B l6:Nat}{h ab ad:J}(cM:B<=l6)(e:Ext B h ab)(cF:Ext l6 ab ad):Ext B h ad:=⟨Nat.le_trans e.n cF.n,λb ae=>(cF.get b (Nat.lt_of_lt_of_le ae cM)).trans (e.get b ae)⟩
theorem Ext.push{B:Nat}{h:J}(cM:B<=h.n)(o:df):Ext B h (h.push o):=⟨by simp,λb ae=>by rw[J.gp,if_neg (by omega)]⟩
theorem Ext.set{B:Nat}{h:J}{b:Nat}(ae:B<=b)(o:Option df):Ext B h (h.set b o):=⟨by simp,λc ag=>by rw[J.cV,if_neg (by omega)]⟩
theorem Ext.room(B:Nat)(h:J)(k:Nat):Ext B h (h.room k):=⟨by simp,λ_ _=>rfl⟩
theorem Bh:∀(l m:List I),takeN l.length (l++m)=some l
 |[],m=>rfl
 |a::l,m=>by simp[takeN,Bh l m]
theorem ED{h:J}{b e aO af:Nat}{k:gM}{xs rest:List I}(al:h.get b=some (.cells (xs++rest) e k aO af)):loadCells h b 0 xs.length=some xs:=by
 simp[loadCells,al,jD,Bh]
section
variable {P:Program}
theorem vE{h:J}{e bytes size need:Nat}{z:I}{cs:List I}{fz:Nat}(ab:kW need bytes=true)(ad:Nat.beq z.cells.length size=true)(ar:cs.all I.cT=true):ku h e bytes size need z cs fz=some (.slice h.n 0 need (.a1 size),h.push (.cells cs e .a1 0 fz)):=by
 unfold ku
 rw[ab,ad,ar];rfl
theorem Kg{h:J}{t:TypeId}{s:List UInt8}{af:Nat}{ej:IntKind}(hu:P.underlying t=some .string)(ad:af<=s.length):
  di P h t (.str s) none (some (.int ej (Int.ofNat af))) none=some (.str (s.take af)):=by
 have bo:Nat.ble s.length s.length=true:=by simp
 have bG:Nat.ble af s.length=true:=by simpa using ad
 have ed:Nat.ble 0 af=true:=by simp
 simp only[di,hu,bounds,hg,eK,bo,bG,ed,nr,List.drop_zero,Nat.sub_zero]
theorem S4{h:J}{t:TypeId}{s:List UInt8}{aO:Nat}{k:IntKind}(hu:P.underlying t=some .string)(ad:aO<=s.length):
  di P h t (.str s) (some (.int k (Int.ofNat aO))) none none=some (.str (s.drop aO)):=by
 have bo:Nat.ble s.length s.length=true:=by simp
 have bG:Nat.ble aO s.length=true:=by simpa using ad
 simp only[di,hu,bounds,hg,eK,bo,bG,nr]
 rw[List.take_of_length_le (by simp)]
theorem hG{x y:List UInt8}(h:x.length+y.length<=1000000000000):gG .add x y=some (.str (x++y)):=by
 have:¬(((x.length+y.length:Nat):Int)>IntKind.i64.max):=by
  have e:IntKind.i64.max=9223372036854775807:=rfl
  rw[e];omega
 simp only[gG,if_neg this]
end
end aP
namespace aP
open Go
variable {P:Program} {call:aI->List I->J->av}
def S5(l:Nat)(e:bn)(need:Nat)(r:aY)(ps:List Nat)(as cn:Code)(eL:Nat)(h:J):av:=match e with
 |.nrm=>.ret (.bool true) (h.set l (some (.loop .ready none need r ps as cn eL)))
 |.ret=>.ret (.bool false) (h.set l (some (.loop .done (some .ret) need r ps as cn eL)))
 |.exit id=>.ret (.bool false) (h.set l (some (.loop .done (some (.exit id)) need r ps as cn eL)))
 |.b6 v=>.b6 v h
 |.goto _=>.fail "goto in a round"
theorem Kh{l need t eL:Nat}{Γ hp Γ2:Env}{as cn:Code}{v:I}{h ad:J}{q a6:bF}{e:bn}{r:aY}
  (al:h.get l=some (.loop .ready none need r [t] as cn eL))(hm:Mod r Γ)
  (aT:c5 P need (some l) call as ⟨put t v Γ,[],.none,h⟩ .nrm ⟨hp,[],q,h⟩)
  (ae:c5 P need (some l) call cn ⟨hp,[],.none,h.set l (some (.loop .busy none need r [t] as cn eL))⟩ e ⟨Γ2,[],a6,ad⟩)
  (aq:ad.get l=some (.loop .busy none need r [t] as cn eL)):
  sZ P call l [v] h=S5 l e need r [t] as cn eL ad:=by
 obtain⟨r1,aA,aZ⟩:=aT _ (hm.put t v)
 obtain⟨r2,ay,bQ⟩:=ae _ aZ
 simp only at aA ay
 simp only[sZ,al,uX,aA,CT,ay]
 simp only[xg,aq]
 cases e<;>rfl
theorem nL{h:J}{b t:Nat}{x:I}(al:h.get b=some (.cells [x] t .own 0 0)):au h b 0=some x:=by
 simp only[au,al];rfl
theorem Bi{h:J}{b t:Nat}{x y:I}(aS:y.cT=true)(al:h.get b=some (.cells [x] t .own 0 0)):aP.storeCells h b 0 [y]=some (h.set b (some (.cells [y] t .own 0 0))):=by
 have hw:kV .own 0 0 0 [y].length=true:=rfl
 simp only[aP.storeCells,al,hw,fT,aS]
end aP
namespace aP
open Go
def W(P:Program)(need:Nat)(rd:Option Nat)(call:aI->List I->J->av)(c:Code)(Q:bn->aY->List bU->bF->J->Prop)(r:aY)(d:List bU)(q:bF)(h:J):Prop:=
 ∃e r' bd bk an,dy P need rd call c r d q h=.ok e r' bd bk an/\Q e r' bd bk an
section
variable {P:Program} {need:Nat} {rd:Option Nat} {call:aI->List I->J->av} {fn:Func}
theorem W.of{c:Code}{Q:bn->aY->List bU->bF->J->Prop}{r:aY}{st b2:ah}{e:bn}(aj:c5 P need rd call c st e b2)(hm:Mod r st.Γ)(k:∀r',Mod r' b2.Γ->Q e r' b2.d b2.q b2.h):W P need rd call c Q r st.d st.q st.h:=by
 obtain⟨r',ab,ad⟩:=aj r hm
 exact⟨e,r',_,_,_,ab,k r' ad⟩
theorem W.seq{a b:Code}{Q:bn->aY->List bU->bF->J->Prop}{r:aY}{d:List bU}{q:bF}{h:J}
  (hw:W P need rd call a (λe r d q h=>(e=.nrm/\W P need rd call b Q r d q h)\/(e≠ .nrm/\Q e r d q h)) r d q h):W P need rd call (.seq a b) Q r d q h:=by
 obtain⟨e,r1,d1,a8,ab,ad,ar⟩:=hw
 rcases ar with⟨rfl,ay,r2,d2,a6,aG,bJ,cu⟩|⟨cS,aM⟩
 · exact⟨ay,r2,d2,a6,aG,by simp only[dy,ad,qg,bJ],cu⟩
 · exact⟨e,r1,d1,a8,ab,by simp only[dy,ad];exact tn cS,aM⟩
theorem W.block{id:Nat}{b:Code}{Q:bn->aY->List bU->bF->J->Prop}{r:aY}{d:List bU}{q:bF}{h:J}
  (hw:W P need rd call b (λe r d q h=>(e=.exit id/\Q .nrm r d q h)\/(e≠ .exit id/\Q e r d q h)) r d q h):W P need rd call (.block id b) Q r d q h:=by
 obtain⟨e,r1,d1,a8,ab,ad,ar⟩:=hw
 rcases ar with⟨rfl,aM⟩|⟨cS,aM⟩
 · exact⟨.nrm,r1,d1,a8,ab,by simp only[dy,ad,if_true],aM⟩
 · refine⟨e,r1,d1,a8,ab,?_,aM⟩
   simp only[dy,ad]
   cases e<;>first|rfl|(rename_i i;exact if_neg λh=>cS (by rw[h]))
abbrev WF(P:Program)(fn:Func)(rd:Option Nat)(call:aI->List I->J->av)(path:List Nat):=W P (dL fn) rd call (sub (e9 fn) path)
theorem WF.seq{p:List Nat}{Q:bn->aY->List bU->bF->J->Prop}{r:aY}{d:List bU}{q:bF}{h:J}(hs:tI (sub (e9 fn) p)=true)
  (hw:WF P fn rd call (p++[0]) (λe r d q h=>(e=.nrm/\WF P fn rd call (p++[1]) Q r d q h)\/(e≠ .nrm/\Q e r d q h)) r d q h):WF P fn rd call p Q r d q h:=by
 unfold WF at*
 rw[Bf hs]
 rw[jv,jv] at hw
 exact hw.seq
theorem WF.block{p:List Nat}{id:Nat}{Q:bn->aY->List bU->bF->J->Prop}{r:aY}{d:List bU}{q:bF}{h:J}(hs:vD id (sub (e9 fn) p)=true)
  (hw:WF P fn rd call (p++[0]) (λe r d q h=>(e=.exit id/\Q .nrm r d q h)\/(e≠ .exit id/\Q e r d q h)) r d q h):WF P fn rd call p Q r d q h:=by
 unfold WF at*
 rw[Bg hs]
 rw[jv] at hw
 exact hw.block
def EE(f:Operand)(ps:List Nat):Code->Bool
 |.rangeFunc (.tmp g) dQ _ _=>(match f with|.tmp t=>Nat.beq g t|_=>false)&&dQ.toList==ps
 |_=>false
theorem S6{c:Code}{t:Nat}{ps:List Nat}(h:EE (.tmp t) ps c=true):∃dQ:Array Nat,dQ.toList=ps/\c=.rangeFunc (.tmp t) dQ (sub c [0]) (sub c [1]):=by
 unfold EE at h
 split at h
 · rename_i g dQ a b
   simp only[Bool.and_eq_true] at h
   obtain⟨ab,ad⟩:=h
   obtain rfl:=Nat.eq_of_beq_eq_true ab
   exact⟨dQ,eq_of_beq ad,by simp[sub]⟩
 · cases h
theorem W.range{f:Operand}{ps:Array Nat}{as cn:Code}{Γ:Env}{Q:bn->aY->List bU->bF->J->Prop}{r:aY}{d:List bU}{q:bF}{h:J}{g:Nat}{aU:List I}
  (hf:nH 0 [] Γ (cJ P need [] f)=some (.fn g [] aU))(hm:Mod r Γ)
  (ag:∃e an,nn (h.n+1) r (.collected h.n::d) q (call (.fn g) (.dh (h.n+1)::aU) ((h.push (.defrd (some []))).push (.loop .ready none need r ps.toList as cn h.n)))=.ok e r (.collected h.n::d) q an/\Q e r (.collected h.n::d) q an):
  W P need none call (.rangeFunc f ps as cn) Q r d q h:=by
 obtain⟨e,an,aH,a9⟩:=ag
 refine⟨e,r,_,q,an,?_,a9⟩
 have al:=tF hm hf
 rw[<-aH]
 simp only[dy,xe,al,sX,n9]
 rfl
theorem WF.range{p:List Nat}{t:Nat}{ps:List Nat}{Γ:Env}{Q:bn->aY->List bU->bF->J->Prop}{r:aY}{d:List bU}{q:bF}{h:J}{g:Nat}{aU:List I}(hs:EE (.tmp t) ps (sub (e9 fn) p)=true)
  (aN:Nat.testBit (dL fn) t=true)(hf:ee t Γ=some (.fn g [] aU))(hm:Mod r Γ)
  (ag:∃e an,nn (h.n+1) r (.collected h.n::d) q (call (.fn g) (.dh (h.n+1)::aU) ((h.push (.defrd (some []))).push (.loop .ready none (dL fn) r ps (sub (e9 fn) (p++[0])) (sub (e9 fn) (p++[1])) h.n)))=.ok e r (.collected h.n::d) q an/\Q e r (.collected h.n::d) q an):
  WF P fn none call p Q r d q h:=by
 obtain⟨dQ,aM,he⟩:=S6 hs
 unfold WF
 rw[jv,jv] at ag
 rw[he]
 subst aM
 refine W.range (Γ:=Γ) ?_ hm ag
 have:cJ P (dL fn) [] (.tmp t)=.reg (g2 t):=by
  unfold cJ
  simp only[h5,aN]
 rw[this]
 show ee (g2 t).num Γ=_
 rw[z6];exact hf
theorem S7{intr:Nat->List I->J->Option (I×J)}{f:Nat}{n:Nat}{args:List I}{h:J}{X:av}(hf:P.funcs[f]? =some fn)(ae:fn.body.isSome=true)(af:intr f args h=none)(hle:Nat.ble args.length fn.ntmps=true)
  (hw:WF P fn none (fa P intr n) [] (λe r d q an=>pg P (fa P intr n) fn (.ok e r d q an)=X) (np 0 args .leaf) [] .none h):fa P intr (n+1) (.fn f) args h=X:=by
 obtain⟨c,ag⟩:=Option.isSome_iff_exists.1 ae
 have qN:e9 fn=c:=by simp[e9,ag]
 obtain⟨e,r,d,q,an,ab,ad⟩:=hw
 rw[qN] at ab
 simp only[sub] at ab
 simp only[fa,af,qi,hf,ag,mC,hle,ab,ad]
end
end aP
namespace aP
open Go
theorem tK:∀l:List UInt8,(dd l).length=l.length
 |[]=>rfl
 |a::l=>by simp[dd,tK l]
theorem Bj:∀l m:List UInt8,dd (l++m)=dd l++dd m
 |[],m=>rfl
 |a::l,m=>by simp[dd,Bj l m]
theorem Bk:∀l:List UInt8,(dd l).all I.cT=true
 |[]=>rfl
 |a::l=>by rw[dd,List.all_cons,Bk l];rfl
theorem EF:∀l:List UInt8,nj (dd l)=some l
 |[]=>rfl
 |a::l=>by
  have ab:Nat.blt a.toNat 256=true:=by have:=UInt8.toNat_lt a;simp[Nat.blt];omega
  simp only[dd,nj,EF l,ab,UInt8.ofNat_toNat]
theorem EG:∀(xs ys:List I),xs.all I.cT=true->xs.length<=ys.length->fT 0 xs ys=some (xs++ys.drop xs.length)
 |[],ys,_,_=>by cases ys<;>simp[fT]
 |x::xs,[],_,h=>by simp at h
 |x::xs,y::ys,aa,h=>by
  simp only[List.all_cons,Bool.and_eq_true] at aa
  have a7:=EG xs ys aa.2 (by simpa using h)
  simp[fT,aa.1,a7]
theorem yo:∀(l xs ys:List I),xs.all I.cT=true->xs.length<=ys.length->fT l.length xs (l++ys)=some (l++(xs++ys.drop xs.length))
 |[],xs,ys,aa,h=>by simpa using EG xs ys aa h
 |a::l,[],ys,aa,h=>by simp[fT]
 |a::l,x::xs,ys,aa,h=>by
  have a7:=yo l (x::xs) ys aa h
  simp only[List.length_cons,List.cons_append,fT] at a7⊢
  rw[a7]
theorem S8{i j:Nat}(h:i+j<9223372036854775808):arith BinOp.add IntKind.i64 (Int.ofNat i) (Int.ofNat j)=some (I.int IntKind.i64 (Int.ofNat (i+j))):=by
 have h:=rv (i+j) h
 have e:Int.ofNat i+Int.ofNat j=((i+j:Nat):Int):=rfl
 simp only[arith,e,h];rfl
theorem vF{i j:Nat}(aJ:j<=i)(h:i<9223372036854775808):arith BinOp.sub IntKind.i64 (Int.ofNat i) (Int.ofNat j)=some (I.int IntKind.i64 (Int.ofNat (i-j))):=by
 have h:=rv (i-j) (by omega)
 have e:Int.ofNat i-Int.ofNat j=((i-j:Nat):Int):=by
  have aA:Int.ofNat i=(i:Int):=rfl
  have ay:Int.ofNat j=(j:Int):=rfl
  rw[aA,ay];omega
 simp only[arith,e,h];rfl
theorem S9{i j:Nat}(h:i*j<9223372036854775808):arith BinOp.mul IntKind.i64 (Int.ofNat i) (Int.ofNat j)=some (I.int IntKind.i64 (Int.ofNat (i*j))):=by
 have h:=rv (i*j) h
 have e:Int.ofNat i*Int.ofNat j=((i*j:Nat):Int):=rfl
 simp only[arith,e,h];rfl
theorem mT{a b:Nat}(h:a<=b):fh (Int.ofNat a) (Int.ofNat b)=true:=by simp[fh];omega
theorem oC{a b:Nat}(h:¬a<=b):fh (Int.ofNat a) (Int.ofNat b)=false:=by simp[fh];omega
def pE(B e:Nat)(h:J)(v:I)(w:List UInt8):Prop:=
 (v=.a0/\w=[])\/∃c rest,v=.slice c 0 w.length (.a1 1)/\h.get c=some (.cells (dd w++rest) e .a1 0 0)/\B<=c/\c<h.n
theorem pE.ext{B e:Nat}{h an:J}{v:I}{w:List UInt8}(ae:pE B e h v w)(aN:h.n<=an.n)(al:∀c,B<=c->c<h.n->an.get c=h.get c):pE B e an v w:=by
 rcases ae with ab|⟨c,rest,ab,ad,ar,aG⟩
 · exact .inl ab
 · exact .inr ⟨c,rest,ab,(al c ar aG).trans ad,ar,by omega⟩
section
variable {P:Program}
theorem Ki{B:Nat}{h:J}{v:I}{w s:List UInt8}{sT e:TypeId}{xT:Option TypeId}{i:TypeInfo}{z:I}(cM:B<=h.n)(hu:P.underlying sT=some (.slice e))(fD:o4 P xT=true)(af:P.info? e=some i)(bx:i.size=1)(a2:ei P e=some z)(ik:z.cells.length=1)
  (pr:kW (w.length+s.length) i.bytes=true)(aj:pE B e h v w):
  ∃v' an,dt P h sT xT v (.str s)=some (v',an)/\pE B e an v' (w++s)/\Ext B h an:=by
 have hH:fV h 1 (.str s)=some (s.length,dd s):=rfl
 have Kj:Nat.beq z.cells.length 1=true:=by rw[ik];rfl
 rcases aj with⟨rfl,rfl⟩|⟨c,rest,rfl,al,qO,vB⟩
 · cases s with
   |nil=>exact⟨.a0,h,by simp only[dt,hu,fD,af,a2,bx];rfl,.inl ⟨rfl,rfl⟩,Ext.refl _ _⟩
   |cons a s=>
    have S_:kW (a::s).length i.bytes=true:=by simpa using pr
    have dZ:=vE (h:=h) (e:=e) (fz:=0) S_ Kj (Bk (a::s))
    refine⟨.slice h.n 0 (a::s).length (.a1 1),h.push (.cells (dd (a::s)) e .a1 0 0),?_,.inr ⟨h.n,[],by simp,by rw[J.gp,if_pos rfl];simp,cM,by simp⟩,Ext.push cM _⟩
    rw[<-dZ]
    simp only[dt,hu,fD,af,a2,bx,hH]
    rfl
 · cases s with
   |nil=>exact⟨.slice c 0 w.length (.a1 1),h,by simp only[dt,hu,fD,af,a2,bx];rfl,.inr ⟨c,rest,by simp,by simpa using al,qO,vB⟩,Ext.refl _ _⟩
   |cons a s=>
    have Kk:(Nat.beq 1 1&&Nat.blt 0 1)=true:=rfl
    by_cases rF:(a::s).length<=rest.length
    · have oD:Nat.ble (0+(w.length+(a::s).length)*1) (dd w++rest).length=true:=by
        simp only[Nat.ble_eq,List.length_append,tK];omega
      have aK:=yo (dd w) (dd (a::s)) rest (Bk _) (by rw[tK];exact rF)
      have hw:kV .a1 0 0 (0+w.length*1) (dd (a::s)).length=true:=by unfold kV;simp
      have xZ:fT (0+w.length*1) (dd (a::s)) (dd w++rest)=some (dd w++(dd (a::s)++rest.drop (dd (a::s)).length)):=by
       rw[<-aK,tK];simp
      refine⟨.slice c 0 (w.length+(a::s).length) (.a1 1),h.set c (some (.cells (dd w++(dd (a::s)++rest.drop (dd (a::s)).length)) e .a1 0 0)),?_,.inr ⟨c,rest.drop (dd (a::s)).length,by simp,by rw[J.cV,if_pos rfl,Bj];simp,qO,by simpa using vB⟩,Ext.set qO _⟩
      simp only[dt,hu,fD,af,a2,bx,hH]
      simp only[Kk,List.length_cons,al]
      simp only[List.length_cons] at oD xZ hw
      simp only[oD,aP.storeCells,al,hw,xZ]
    · have oD:Nat.ble (0+(w.length+(a::s).length)*1) (dd w++rest).length=false:=by
        cases ae:Nat.ble (0+(w.length+(a::s).length)*1) (dd w++rest).length with
        |false=>rfl
        |true=>simp only[Nat.ble_eq,List.length_append,tK] at ae;omega
      have aw:loadCells h c 0 (w.length*1)=some (dd w):=by
       have:=ED (xs:=dd w) al
       rw[tK] at this;simpa using this
      have en:(dd w++dd (a::s)).all I.cT=true:=by rw[<-Bj];exact Bk _
      have yp:(Nat.ble 0 (0+w.length*1)&&Nat.beq e e)=true:=by simp
      have dZ:=vE (h:=h.set c none) (e:=e) (fz:=0-0) pr Kj en
      refine⟨.slice (h.set c none).n 0 (w.length+(a::s).length) (.a1 1),(h.set c none).push (.cells (dd w++dd (a::s)) e .a1 0 0),?_,.inr ⟨(h.set c none).n,[],by simp,by rw[J.gp,if_pos rfl,Bj];simp,by simp;omega,by simp⟩,
       (Ext.set qO none).trans (Nat.le_refl _) (Ext.push (by simp;omega) _)⟩
      simp only[List.length_cons] at oD dZ
      simp only[dt,hu,fD,af,a2,bx,hH]
      simp only[Kk,List.length_cons,al]
      simp only[oD,aw,yp,dZ]
theorem Kl{h:J}{pT u:TypeId}{c e:Nat}{w:List UInt8}{rest:List I}(hw:w≠[])(aw:w.length<=100000000000)(hu:P.underlying pT=some (.pointer u))(he:P.underlyingId e=P.underlyingId u)(hs:dn P e=some 1)(al:h.get c=some (.cells (dd w++rest) e .a1 0 0)):
  o6 P h pT (.ptr c 0) (.int .i64 (Int.ofNat w.length))=some (.str w,h.set c (some (.cells (dd w++rest) e .fz 0 0))):=by
 have aN:w.length≠0:=by cases w<;>simp at hw⊢
 have ba:takeN w.length (jD 0 (dd w++rest))=some (dd w):=by
  have:=Bh (dd w) rest
  rw[tK] at this;exact this
 have hle:Nat.ble w.length 281474976710656=true:=by simp;omega
 simp only[o6,eK,if_neg aN,hu,al,he,hs,hle,ba,EF]
 simp
end
end aP
namespace aP
open Go
section
variable {D:Type}
variable {enc:D->List I} {w:Nat}
theorem Km:∀(l m:List I) (n:Nat),l.length=n->takeN n (l++m)=some l
 |l,m,n,h=>by subst h;exact Bh l m
end
end aP
namespace aP
open Go
theorem Kn(n:Nat)(h:n<18446744073709551616):IntKind.wrap .u64 (n:Int)=(n:Int):=by
 have e:((n:Int) %18446744073709551616)=n:=by omega
 have ay:(2:Int)^64=18446744073709551616:=by rfl
 simp only[IntKind.wrap,IntKind.bits,IntKind.signed,ay,e,Bool.false_and,if_neg Bool.false_ne_true]
theorem wrap_u8(n:Nat):IntKind.wrap .u8 (n:Int)=((n %256:Nat):Int):=by
 have ay:(2:Int)^8=256:=by rfl
 simp only[IntKind.wrap,IntKind.bits,IntKind.signed,ay,Bool.false_and,if_neg Bool.false_ne_true]
 omega
theorem Ta{i j:Nat}(h:i+j<18446744073709551616):arith BinOp.add IntKind.u64 (Int.ofNat i) (Int.ofNat j)=some (I.int IntKind.u64 (Int.ofNat (i+j))):=by
 have h:=Kn (i+j) h
 have e:Int.ofNat i+Int.ofNat j=((i+j:Nat):Int):=rfl
 simp only[arith,e,h];rfl
theorem Tb{i j:Nat}(aJ:j<=i)(h:i<18446744073709551616):arith BinOp.sub IntKind.u64 (Int.ofNat i) (Int.ofNat j)=some (I.int IntKind.u64 (Int.ofNat (i-j))):=by
 have h:=Kn (i-j) (by omega)
 have e:Int.ofNat i-Int.ofNat j=((i-j:Nat):Int):=by
  have aA:Int.ofNat i=(i:Int):=rfl
  have ay:Int.ofNat j=(j:Int):=rfl
  rw[aA,ay];omega
 simp only[arith,e,h];rfl
theorem Tc(k:IntKind){i j:Nat}(aJ:0<j):arith BinOp.rem k (Int.ofNat i) (Int.ofNat j)=some (I.int k (Int.ofNat (i %j))):=by
 have e:(Int.ofNat i).tmod (Int.ofNat j)=((i %j:Nat):Int):=rfl
 have cS:¬(Int.ofNat j=0):=by
  have aA:Int.ofNat j=(j:Int):=rfl
  rw[aA];omega
 simp only[arith,if_neg cS,e];rfl
section
variable {P:Program}
theorem Ko{a b:TypeId}{ka k ej:IntKind}{n:Int}{h:J}(aT:P.underlying a=some (.int ka))(ae:P.underlying b=some (.int ej)){m:Int}(hm:ej.wrap n=m):iR P a b (.int k n) h=.val (.int ej m) h:=by
 simp only[iR,aT,ae,hm]
end
end aP
namespace aP
open Go
theorem mU{a b:Nat}(h:a=b):a_ (Int.ofNat a) (Int.ofNat b)=true:=by subst h;simp[a_]
theorem jw{a b:Nat}(h:¬a=b):a_ (Int.ofNat a) (Int.ofNat b)=false:=by
 cases aa:a_ (Int.ofNat a) (Int.ofNat b) with
 |false=>rfl
 |true=>simp[a_] at aa;omega
theorem Bl(m l:Nat):kV .a1 0 0 m l=true:=by unfold kV;simp
structure k6(p B:Nat)(h an:J):Prop where
 n:h.n<=an.n
 get:∀b,b<B->b≠p->an.get b=h.get b
theorem Ext.Td{B:Nat}{h an:J}(e:Ext B h an)(p:Nat):k6 p B h an:=⟨e.n,λb ae _=>e.get b ae⟩
theorem k6.refl(p B:Nat)(h:J):k6 p B h h:=⟨Nat.le_refl _,λ_ _ _=>rfl⟩
theorem k6.trans{p B l6:Nat}{h ab ad:J}(cM:B<=l6)(e:k6 p B h ab)(cF:k6 p l6 ab ad):k6 p B h ad:=⟨Nat.le_trans e.n cF.n,λb ae aK=>(cF.get b (Nat.lt_of_lt_of_le ae cM) aK).trans (e.get b ae aK)⟩
theorem k6.adt{p B:Nat}{h an:J}(e:k6 p B h an)(aK:B<=p):Ext B h an:=⟨e.n,λb ae=>e.get b ae (by omega)⟩
theorem Ext.le{B l6:Nat}{h an:J}(e:Ext l6 h an)(cM:B<=l6):Ext B h an:=⟨e.n,λb ae=>e.get b (by omega)⟩
end aP
namespace aP
open Go
theorem fo{h:J}{o:df}{b:Nat}(ae:b=h.n):(h.push o).get b=some o:=by subst ae;rw[J.gp,if_pos rfl]
theorem l7{h:J}{o:df}{b:Nat}{x:Option df}(ae:b<h.n)(aa:h.get b=x):(h.push o).get b=x:=by rw[J.gp,if_neg (by omega)];exact aa
theorem gR{h:J}{o:df}{b c:Nat}(ae:b=c):(h.set c (some o)).get b=some o:=by subst ae;rw[J.cV,if_pos rfl]
theorem dM{h:J}{b c:Nat}{o x:Option df}(ae:¬b=c)(aa:h.get b=x):(h.set c o).get b=x:=by rw[J.cV,if_neg ae];exact aa
theorem aV{h:J}{b off:Nat}{cs:List I}{e aO up:Nat}{k:gM}{v:I}(al:h.get b=some (.cells cs e k aO up))(aN:nth off cs=some v):au h b off=some v:=by simp only[au,al,aN]
theorem pF{h:J}{b off m:Nat}{cs vs:List I}{e aO up:Nat}{k:gM}(al:h.get b=some (.cells cs e k aO up))(aN:takeN m (jD off cs)=some vs):aP.loadCells h b off m=some vs:=by simp only[aP.loadCells,al,aN]
theorem gS{h:J}{b off:Nat}{xs cs bO:List I}{e aO up:Nat}{k:gM}(al:h.get b=some (.cells cs e k aO up))(hw:kV k aO up off xs.length=true)(aK:fT off xs cs=some bO):aP.storeCells h b off xs=some (h.set b (some (.cells bO e k aO up))):=by simp only[aP.storeCells,al,hw,aK]
theorem Ext.iX{B b:Nat}{h g:J}{o:Option df}(ae:B<=b)(e:Ext B h g):Ext B h (g.set b o):=e.trans (Nat.le_refl _) (Ext.set ae _)
theorem Ext.kG{B:Nat}{h g:J}{o:df}(cM:B<=g.n)(e:Ext B h g):Ext B h (g.push o):=e.trans (Nat.le_refl _) (Ext.push cM _)
theorem Ext.h_{B k:Nat}{h g:J}(e:Ext B h g):Ext B h (g.room k):=⟨Nat.le_trans e.n (Nat.le_add_right _ _),e.get⟩
theorem Kp(a:List UInt8):dK a a=true:=by
 induction a with
 |nil=>rfl
 |cons x l a7=>simp[dK,a7]
theorem Te(a b:Int):jE qd (.int .i64 a) [.int .i64 b]=some (.int .i64 (min a b)):=by
 simp only[jE,qd,if_true]
 by_cases h:b<a
 · have aw:bM b a=true:=by simp[bM];omega
   rw[if_pos aw,Int.min_eq_right (by omega)]
 · have aw:¬bM b a=true:=by simp[bM];omega
   rw[if_neg aw,Int.min_eq_left (by omega)]
theorem Tf(a b:Nat):jE qd (.int .i64 (Int.ofNat a)) [.int .i64 (Int.ofNat b)]=some (.int .i64 (Int.ofNat (min a b))):=by
 rw[Te];congr 2
 show min (a:Int) (b:Int)=((min a b:Nat):Int)
 omega
end aP
