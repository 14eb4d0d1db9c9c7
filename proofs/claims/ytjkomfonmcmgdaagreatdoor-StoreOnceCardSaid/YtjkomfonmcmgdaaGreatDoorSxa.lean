/-
  PROVED HERE: symbolic runs of the evaluator, and that they are sound (Sxa). No condition beside each statement's own.
-/
import Derived.Test.YtjkomfonmcmgdaaGreatDoorAed
set_option linter.unusedVariables false
set_option linter.unusedSimpArgs false
namespace bt
open Go
abbrev Env:=List (Nat×I)
def ej(t:Nat):Env->Option I
 |[]=>none
 |(u,v)::l=>match Nat.beq t u with
  |true=>some v
  |false=>ej t l
def del(t:Nat):Env->Env
 |[]=>[]
 |(u,v)::l=>match Nat.beq t u with
  |true=>del t l
  |false=>(u,v)::del t l
def put(t:Nat)(v:I)(Γ:Env):Env:=(t,v)::del t Γ
def ny(Γ:Env):List Nat->Env
 |[]=>[]
 |t::l=>match ej t Γ with
  |some v=>(t,v)::ny Γ l
  |none=>ny Γ l
def Mod(r:a2)(Γ:Env):Prop:=∀t v,ej t Γ=some v->r.get (hh t)=v
structure ah where
 Γ:Env
 d:List bZ
 q:bL
 h:J
inductive Hint where
 |v (v:I)
 |mM (v:I) (h:J)
 |c (v:I) (h:J)
 |p (v:I) (h:J)
 |b (b:Bool)
 |loop (e:bu) (st:ah)
 |Uk (v:I) (o:dr)
 |o (v:I)
 |Ul
def eE:List Prop->Prop
 |[]=>True
 |p::l=>p/\eE l
theorem eE.cons{p:Prop}{l:List Prop}(h:p)(t:eE l):eE (p::l):=⟨h,t⟩
theorem eE.nil:eE []:=trivial
theorem eE.append:∀{l m:List Prop},eE (l++m)->eE l/\eE m
 |[],m,h=>⟨trivial,h⟩
 |p::l,m,h=>⟨⟨h.1,(eE.append h.2).1⟩,(eE.append h.2).2⟩
def oo(m:Nat)(env:List I)(Γ:Env):Acc->Option I
 |.env j=>nth (m-1-j) env
 |.reg p=>ej p.num Γ
 |.val v=>some v
def Fy(o:Oper)(g:Operand->I):Nat:=match o.op with
 |.load .. |.slice .. |.index .. |.indexAddr .. |.lookup .. |.entry .. =>1
 |.binOp op _ x y _=>match op,g x,g y with
  |.eql,.int _ _,.int _ _|.neq,.int _ _,.int _ _|.lss,.int _ _,.int _ _|.leq,.int _ _,.int _ _|.gtr,.int _ _,.int _ _|.geq,.int _ _,.int _ _=>0
  |.eql,.str _,.str _|.neq,.str _,.str _|.lss,.str _,.str _|.leq,.str _,.str _|.gtr,.str _,.str _|.geq,.str _,.str _=>0
  |_,_,_=>1
 |.unOp op _ _=>match op with
  |.not=>0
  |_=>1
 |.convert _ _ x=>match g x with
  |.str _=>2
  |_=>1
 |.range _ x=>match g x with
  |.map _=>2
  |_=>0
 |.store .. |.mapUpdate .. |.mapEntry .. |.entryStore .. |.insert .. |.next .. |.makeSlice .. =>2
 |.call c=>match c.callee with
  |.builtin b=>match b with
   |.len=>match c.args.toList.map g with
    |[.map _]=>1
    |_=>0
   |.cap|.min|.max|.unsafeSliceData=>1
   |.append|.copy|.clear|.delete|.unsafeString=>2
   |_=>0
  |_=>0
 |_=>0
def g7(n:Nat)(s:List UInt8):Option I:=match nth n s with
 |some b=>some (.int .u8 (Int.ofNat b.toNat))
 |none=>none
def o9(P:Program)(o:Oper)(g:Operand->I)(h:J)(v:I):Prop:=match o.op with
 |.load t a=>match g a,qM P t,dx P t with
  |.ptr b off,some false,some _=>ar h b off=some v
  |.ptr b off,some true,some n=>match v with
   |.agg cs=>loadCells h b off n=some cs
   |_=>False
  |_,_,_=>False
 |.binOp op t x y _=>match g x,g y with
  |.int k a,.int dh b=>match op with
   |.shl=>r0 .shl k a b=some v
   |.shr=>r0 .shr k a b=some v
   |op=>match decide (k=dh) with
    |true=>arith op k a b=some v
    |false=>False
  |.str a,.str b=>gT op a b=some v
  |a,b=>dZ P h op t x y a b=some v
 |.slice t x aI af mx=>c1 P h t (g x) (aI.map g) (af.map g) (mx.map g)=some v
 |.index t x i=>match P.underlying t,g x,eI (g i) with
  |some .string,.str s,some n=>g7 n s=some v
  |some (.array m e),.agg cs,some n=>match dx P e with
   |some sz=>n<m/\js P e cs (n*sz)=some v
   |none=>False
  |_,_,_=>False
 |.indexAddr t x i=>match P.underlying t,g x,eI (g i) with
  |some (.array m e),.ptr b off,some n=>match dx P e with
   |some sz=>n<m/\v=.ptr b (off+n*sz)
   |none=>False
  |some (.slice e),.slice b off m c,some n=>match dx P e with
   |some sz=>n<m/\v=.ptr b (off+n*sz)
   |none=>False
  |_,_,_=>False
 |.lookup t x i ok=>hO P h t (g x) (g i) ok=some v
 |.entry it=>tB h (g it)=some v
 |.unOp op _ x=>match op,g x with
  |.neg,.int k n=>v=.int k (k.wrap (0-n))
  |.xor,.int k n=>arith .xor k (if k.signed then-1 else k.max) n=some v
  |_,_=>False
 |.convert src dst x=>iZ P src dst (g x) h=.val v h
 |.call c=>match c.callee,c.args.toList.map g,c.argTypes[0]? with
  |.builtin .len,[x],some t=>cl P h t x=some v
  |.builtin .cap,[x],some t=>vC P t x=some v
  |.builtin .min,x::l,_=>lU qN x l=some v
  |.builtin .max,x::l,_=>lU r3 x l=some v
  |.builtin .unsafeSliceData,[x],some t=>iz P .unsafeSliceData #[t] [x] h=.val v h
  |_,_,_=>False
 |_=>False
def B0(P:Program)(h:J)(t:TypeId)(l c:I):Option (I×J):=match P.underlying t,eI l,eI c with
 |some (.slice e),some l,some c=>match P.info? e,ev P e with
  |some i,some z=>if l<=c&&Nat.ble (c*(i.bytes+1)) 1099511627776&&Nat.beq z.cells.length i.size then(match newRow h e (if c*i.size=0 then[] else fs c z.cells) with
   |some (b,an)=>some (.slice b 0 l (.exact c),an)
   |none=>none) else none
  |_,_=>none
 |_,_,_=>none
def B1(h:J):I->Option (I×J)
 |.map m=>match h.get m with
  |some (.map _ c)=>some (.ptr h.n 0,h.push (.mapIter (some m) c [] c))
  |_=>none
 |_=>none
def wj(P:Program)(o:Oper)(g:Operand->I)(h:J)(v:I)(an:J):Prop:=match o.op with
 |.store t a x=>match g a with
  |.ptr b off=>dx P t=some (g x).cells.length/\storeCells h b off (g x).cells=some an/\v=.aO []
  |_=>False
 |.convert src dst x=>iZ P src dst (g x) h=.val v an
 |.mapUpdate t m k x=>vE P h t (g m) (g k) (g x)=some an/\v=.aO []
 |.insert t m k x=>vE P h t (g m) (g k) (g x)=some an/\v=.aO []
 |.mapEntry t m k=>pN P h t (g m) (g k)=some (v,an)
 |.entryStore t m s x=>pO h (g m) (g s) (g x)=some an/\v=.aO []
 |.next it isStr=>AY h (g it) isStr=some (v,an)
 |.range t x=>match P.underlying t with
  |some (.map _ _)=>B1 h (g x)=some (v,an)
  |_=>False
 |.makeSlice t l c=>B0 P h t (g l) (g c)=some (v,an)
 |.call c=>match c.callee,c.args.toList.map g,c.argTypes[0]? with
  |.builtin .append,[x,y],some t=>db P h t c.argTypes[1]? x y=some (v,an)
  |.builtin .copy,[x,y],some t=>vD P h t x y=some (v,an)
  |.builtin .clear,[x],some t=>pI P h t x=some (v,an)
  |.builtin .delete,[x,y],some t=>pP P h t x y=some (v,an)
  |.builtin .unsafeString,[x,y],some t=>pJ P h t x y=some (v,an)
  |_,_,_=>False
 |_=>False
inductive nz where
 |ok (v:I) (d:List bZ) (q:bL) (h:J)
 |ca (v:I) (d:List bZ) (q:bL) (h:J)
def nz.res:nz->x2
 |.ok v d q h=>.ok v d q h
 |.ca v d q h=>.ca v d q h
inductive lx(α:Type 1) where
 |cY (a:α)
 |stop (jG:String) (x:Option Bool)
structure hp(α:Type):Type 1 where
 res:α
 cs:List Prop
 hs:List Hint
structure Um(l:List I):Prop where
 h:l.all I.cO=true
def B2(call:aP)(pos:String)(f:eJ)(args:List I)(d:List bZ)(q:bL)(h:J):List Hint->lx (hp nz)
 |.c v an::hs=>.cY ⟨.ok v d q an,[call f args h=.ret v an],hs⟩
 |.p v an::hs=>.cY ⟨.ca v d q an,[call f args h=.ca v an],hs⟩
 |_=>.stop ("call " ++pos) none
def Un(P:Program)(o:Oper):Bool:=match o.op with
 |.call c=>match c.callee with
  |.builtin b=>match b with
   |.len=>true
   |_=>false
  |_=>false
 |.binOp op t _ _ _=>match op with
  |.eql|.neq=>match P.underlying t with
   |some (.int _)=>false
   |some .string=>false
   |some .bool=>false
   |some _=>true
   |none=>false
  |_=>false
 |_=>false
def Uo(P:Program)(o:Oper):List Hint->Option (I×List Hint)
 |.o v::hs=>match Un P o with
  |true=>some (v,hs)
  |false=>none
 |_=>none
def K2(o:Oper):List Hint->Option (TypeId×Operand×List Hint)
 |.Ul::hs=>match o.op with
  |.box e x=>some (e,x,hs)
  |_=>none
 |_=>none
def Fz(P:Program)(inR:Bool)(call:aP)(o:Oper)(g:Operand->I)(d:List bZ)(q:bL)(h:J)(hs:List Hint):lx (hp nz):=
 match Uo P o hs with
 |some (v,hs)=>.cY ⟨.ok v d q h,[o9 P o g h v],hs⟩
 |none=>match K2 o hs with
  |some (e,x,hs)=>.cY ⟨.ok (.ptr h.n 0) d q (h.push (.cells (g x).cells e .own 0 0)),[Um (g x).cells],hs⟩
  |none=>match Fy o g with
   |0=>match cP P o g h with
    |.val v an=>.cY ⟨.ok v d q an,[],hs⟩
    |.ca v an=>.cY ⟨.ca v d q an,[],hs⟩
    |.call f args an=>B2 call o.pos (.fn f) args d q an hs
    |.dt l args an=>B2 call o.pos (.dt l) args d q an hs
    |.lT x=>match inR with
     |true=>.stop "defer" none
     |false=>.cY ⟨.ok (.aO []) (x::d) q h,[],hs⟩
    |.tx=>match inR with
     |true=>.stop "recover" none
     |false=>match q with
      |.none=>.cY ⟨.ok .e7 d .none h,[],hs⟩
      |.done v=>.cY ⟨.ok .e7 d (.done v) h,[],hs⟩
      |.act v=>.cY ⟨.ok v d (.done v) h,[],hs⟩
    |.fail w=>.stop (w++ " " ++o.pos) none
   |1=>match hs with
    |.v v::hs=>.cY ⟨.ok v d q h,[o9 P o g h v],hs⟩
    |_=>.stop ("value " ++o.pos) none
   |_=>match hs with
    |.mM v an::hs=>.cY ⟨.ok v d q an,[wj P o g h v an],hs⟩
    |_=>.stop ("value and memory " ++o.pos) none
def FA(o:Oper)(g:Operand->I)(d:List bZ)(q:bL)(h:J)(hs:List Hint):Option (lx (hp nz)):=match o.op with
 |.pick c a b=>match g c with
  |.bool x=>match hs with
   |.b true::hs=>some (.cY ⟨.ok (g a) d q h,[x=true],hs⟩)
   |.b false::hs=>some (.cY ⟨.ok (g b) d q h,[x=false],hs⟩)
   |_=>some (.stop ("pick " ++o.pos) (some x))
  |_=>some (.stop ("pick of what " ++o.pos) none)
 |_=>none
def B3(P:Program)(inR:Bool)(call:aP)(o:Oper)(g:Operand->I)(d:List bZ)(q:bL)(h:J)(hs:List Hint):lx (hp nz):=match FA o g d q h hs with
 |some r=>r
 |none=>Fz P inR call o g d q h hs
def wk(P:Program)(inR:Bool)(call:aP)(gd:Option (I×Bool))(o:Oper)(g:Operand->I)(d:List bZ)(q:bL)(h:J)(hs:List Hint):lx (hp nz):=
 match gd with
 |none=>B3 P inR call o g d q h hs
 |some (.bool x,b)=>match hs with
  |.b c::hs=>match c==b with
   |true=>match B3 P inR call o g d q h hs with
    |.cY ⟨s,cs,hs⟩=>.cY ⟨s,(x=c)::cs,hs⟩
    |.stop w x=>.stop w x
   |false=>.cY ⟨.ok (.aO []) d q h,[x=c],hs⟩
  |_=>.stop ("guard " ++o.pos) (some x)
 |some (.aO [],_)=>.cY ⟨.ok (.aO []) d q h,[],hs⟩
 |_=>.stop ("guard of what " ++o.pos) none
def wm(P:Program)(need m:Nat)(env:List I)(Γ:Env)(loc:List (Nat×Acc))(o:Oper):Bool:=o.op.operands.toList.all λx=>(oo m env Γ (cR P need loc x)).isSome
def ly(P:Program)(need m:Nat)(env:List I)(Γ:Env)(loc:List (Nat×Acc))(x:Operand):I:=(oo m env Γ (cR P need loc x)).getD .bad
def K3(env:List I)(Γ:Env)(s:Step):Option (Option (I×Bool)):=match s.guard with
 |none=>some none
 |some (a,b)=>match oo s.m env Γ a with
  |some v=>some (some (v,b))
  |none=>none
def B4(P:Program)(need:Nat)(inR:Bool)(call:aP)(Γ:Env):List Step->List I->List bZ->bL->J->List Hint->lx (hp na)
 |[],env,d,q,h,hs=>.cY ⟨.ok env d q h,[],hs⟩
 |s::rest,env,d,q,h,hs=>
  match wm P need s.m env Γ s.loc s.o with
  |false=>.stop ("an operand " ++s.o.pos) none
  |true=>
   match K3 env Γ s with
   |none=>.stop ("guard " ++s.o.pos) none
   |some gd=>match wk P inR call gd s.o (ly P need s.m env Γ s.loc) d q h hs with
    |.cY ⟨.ok v bh bn an,cs,dw⟩=>match B4 P need inR call Γ rest (v::env) bh bn an dw with
     |.cY ⟨x,bT,uq⟩=>.cY ⟨x,cs++bT,uq⟩
     |.stop w x=>.stop w x
    |.cY ⟨.ca v bh bn an,cs,dw⟩=>.cY ⟨.ca v bh bn an,cs,dw⟩
    |.stop w x=>.stop w x
def rn(need m:Nat)(env:List I)(gM:Env):List (Nat×Acc)->Env->Env
 |[],Γ=>Γ
 |(t,a)::l,Γ=>
  match Nat.testBit need t with
  |true=>match oo m env gM a with
   |some v=>put t v (rn need m env gM l Γ)
   |none=>del t (rn need m env gM l Γ)
  |false=>rn need m env gM l Γ
def B5:List (Nat×Acc)->Env->Env
 |[],Γ=>Γ
 |(t,_)::l,Γ=>del t (B5 l Γ)
def J.room(h:J)(k:Nat):J:=⟨h.t,h.n+k⟩
@[simp] theorem J.Up (h:J) (k b:Nat):(h.room k).get b=h.get b:=rfl
@[simp] theorem J.K4 (h:J) (k:Nat):(h.room k).n=h.n+k:=rfl
abbrev oq:=List (Nat×Nat×J)
structure ko where
 env:List I
 d:List bZ
 q:bL
 h:J
 bj:oq
def za(P:Program)(need:Nat)(ops:Array Oper)(n:Nat)(env:List I)(Γ:Env)(s:DStep):Option (Option (I×Bool)):=match j0 P need ops s.loc s.o with
 |none=>some none
 |some (a,b)=>match oo n env Γ a with
  |some v=>some (some (v,b))
  |none=>none
def ur(s:DStep):oq->Bool
 |[]=>true
 |(e,_,_)::_=>Nat.testBit s.e8 e
def K5(P:Program)(t:TypeId)(l c:I)(b:Nat):Option (I×dr):=match P.underlying t,eI l,eI c with
 |some (.slice e),some l,some c=>match P.info? e,ev P e with
  |some i,some z=>match decide (l<=c)&&Nat.ble (c*(i.bytes+1)) 1099511627776&&Nat.beq z.cells.length i.size,(if c*i.size=0 then[] else fs c z.cells) with
   |true,cs=>match cs.all I.cO with
    |true=>some (.slice b 0 l (.exact c),.cells cs e .own 0 0)
    |false=>none
   |_,_=>none
  |_,_=>none
 |_,_,_=>none
def K6(P:Program)(op:Op)(g:Operand->I)(b:Nat)(v:I)(o:dr):Prop:=match op with
 |.makeSlice t l c=>K5 P t (g l) (g c) b=some (v,o)
 |_=>False
theorem K7{P:Program}{op:Op}{g:Operand->I}{b:Nat}{v:I}{o:dr}(h:K6 P op g b v o):kC P op g b=some (v,o):=by
 cases op<;>first|exact h|exact absurd h id
def K8(P:Program)(gd:Option (I×Bool))(s:DStep)(g:Operand->I)(b:Nat)(st:ko)(hs:List Hint):lx (hp ko):=
 match gd with
 |none=>match hs with
  |.Uk v o::hs=>.cY ⟨⟨v::st.env,st.d,st.q,st.h.set b (some o),st.bj⟩,[K6 P s.o.op g b v o],hs⟩
  |hs=>match kC P s.o.op g b with
   |some (v,o)=>.cY ⟨⟨v::st.env,st.d,st.q,st.h.set b (some o),st.bj⟩,[],hs⟩
   |none=>.stop ("alloc " ++s.o.pos) none
 |some (.bool x,c)=>match hs with
  |.b y::hs=>match y==c with
   |true=>match kC P s.o.op g b with
    |some (v,o)=>.cY ⟨⟨v::st.env,st.d,st.q,st.h.set b (some o),st.bj⟩,[x=y],hs⟩
    |none=>.stop ("alloc " ++s.o.pos) none
   |false=>.cY ⟨⟨.aO []::st.env,st.d,st.q,st.h,st.bj⟩,[x=y],hs⟩
  |_=>.stop ("guard " ++s.o.pos) (some x)
 |some (.aO [],_)=>.cY ⟨⟨.aO []::st.env,st.d,st.q,st.h,st.bj⟩,[],hs⟩
 |_=>.stop ("guard of what " ++s.o.pos) none
def B6(P:Program)(need:Nat)(inR:Bool)(call:aP)(ops:Array Oper)(Γ:Env)(cJ:Nat)(s:DStep)(st:ko)(hs:List Hint):lx (hp ko):=
 match wm P need s.i st.env Γ s.loc s.o with
 |false=>.stop ("an operand " ++s.o.pos) none
 |true=>match za P need ops s.i st.env Γ s with
  |none=>.stop ("guard " ++s.o.pos) none
  |some gd=>match kindOf P s.o.op with
   |.alloc=>K8 P gd s (ly P need s.i st.env Γ s.loc) (cJ+s.i) st hs
   |.pure=>match wk P inR call gd s.o (ly P need s.i st.env Γ s.loc) st.d st.q st.h hs with
    |.cY ⟨.ok v _ _ _,cs,dw⟩=>.cY ⟨⟨v::st.env,st.d,st.q,st.h,st.bj⟩,cs,dw⟩
    |.cY ⟨.ca _ _ _ _,_,_⟩=>.stop ("a panic " ++s.o.pos) none
    |.stop w x=>.stop w x
   |.ew=>match ur s st.bj with
    |false=>.stop ("order " ++s.o.pos) none
    |true=>match wk P inR call gd s.o (ly P need s.i st.env Γ s.loc) st.d st.q st.h hs with
     |.cY ⟨.ok v bh bn an,cs,dw⟩=>.cY ⟨⟨v::st.env,bh,bn,an,(s.i,s.e8,st.h)::st.bj⟩,cs,dw⟩
     |.cY ⟨.ca _ _ _ _,_,_⟩=>.stop ("a panic " ++s.o.pos) none
     |.stop w x=>.stop w x
def B7(P:Program)(need:Nat)(inR:Bool)(call:aP)(ops:Array Oper)(Γ:Env)(cJ:Nat):List DStep->ko->List Hint->lx (hp ko)
 |[],st,hs=>.cY ⟨st,[],hs⟩
 |s::rest,st,hs=>match B6 P need inR call ops Γ cJ s st hs with
  |.cY ⟨b5,cs,dw⟩=>match B7 P need inR call ops Γ cJ rest b5 dw with
   |.cY ⟨y,bT,uq⟩=>.cY ⟨y,cs++bT,uq⟩
   |.stop w x=>.stop w x
  |.stop w x=>.stop w x
def FB(P:Program)(need:Nat)(inR:Bool)(call:aP)(ops:Array Oper)(Γ:Env)(s:DStep)(rest:List DStep)(st:ko)(hs:List Hint):lx (hp (I×ko)):=
 match wm P need s.i st.env Γ s.loc s.o with
 |false=>.stop ("an operand " ++s.o.pos) none
 |true=>match za P need ops s.i st.env Γ s with
  |none=>.stop ("guard " ++s.o.pos) none
  |some gd=>match kindOf P s.o.op with
   |.ew=>match ur s st.bj with
    |false=>.stop ("order " ++s.o.pos) none
    |true=>match wk P inR call gd s.o (ly P need s.i st.env Γ s.loc) st.d st.q st.h hs with
     |.cY ⟨.ca v bh bn an,cs,dw⟩=>match rest.all (λbd=>Nat.testBit bd.e8 s.i) with
      |true=>.cY ⟨(v,⟨st.env,bh,bn,an,(s.i,s.e8,st.h)::st.bj⟩),cs,dw⟩
      |false=>.stop ("panic " ++s.o.pos) none
     |_=>.stop ("no panic " ++s.o.pos) none
   |_=>.stop ("no panic " ++s.o.pos) none
def B8(P:Program)(need:Nat)(inR:Bool)(call:aP)(ops:Array Oper)(Γ:Env)(cJ:Nat):List DStep->ko->List Hint->lx (hp (I×ko))
 |[],_,_=>.stop "no panic" none
 |s::rest,st,hs=>match FB P need inR call ops Γ s rest st hs with
  |.cY y=>.cY y
  |.stop _ _=>match B6 P need inR call ops Γ cJ s st hs with
   |.cY ⟨b5,cs,dw⟩=>match B8 P need inR call ops Γ cJ rest b5 dw with
    |.cY ⟨y,bT,uq⟩=>.cY ⟨y,cs++bT,uq⟩
    |.stop w x=>.stop w x
   |.stop w x=>.stop w x
mutual
def I.sound:I->Bool
 |.bad=>false
 |.fn _ a b=>j6 a&&j6 b
 |.iface _ v=>v.sound
 |.agg l=>j6 l
 |.aO l=>j6 l
 |_=>true
def j6:List I->Bool
 |[]=>true
 |a::l=>a.sound&&j6 l
end
def K9(o:Oper)(g:Operand->I):Option (Bool×I×I):=match o.op with
 |.pick c a b=>match g c with
  |.bool x=>some (x,g a,g b)
  |_=>none
 |_=>none
def isLen(o:Oper):Bool:=match o.op with
 |.call c=>match c.callee with
  |.builtin .len=>true
  |_=>false
 |_=>false
def zb(P:Program)(o:Oper)(g:Operand->I)(h:J)(v:I):List Prop:=match K9 o g with
 |some (x,a,b)=>[v.sound=true,cond x a b=v]
 |none=>match isLen o with
  |true=>[v.sound=true,o9 P o g h v]
  |false=>match Fy o g with
   |1=>[v.sound=true,o9 P o g h v]
   |_=>match cP P o g h with
    |.val v' _=>[v.sound=true,v'=v]
    |_=>[False]
def lookW(v:I)(q p:Prop):Prop:=match v with
 |.aO []=>q
 |_=>p
def FC(P:Program)(need:Nat)(ops:Array Oper)(Γ:Env)(n:Nat)(env:List I)(s:DStep)(v:I)(h:J):List Prop:=
 match wm P need n env Γ s.loc s.o,za P need ops n env Γ s with
 |true,some gd=>match gd with
  |none=>zb P s.o (ly P need n env Γ s.loc) h v
  |some (.bool x,b)=>[lookW v ((x==b)=false) (eE (zb P s.o (ly P need n env Γ s.loc) h v))]
  |some (.aO [],_)=>[]
  |_=>[False]
 |_,_=>[False]
def rp(s:DStep)(d_:Option Nat)(bj:oq):Bool:=(match d_ with|none=>false|some e=>Nat.testBit s.e8 e)||(match bj with|[]=>false|(_,m,_)::_=>Nat.testBit m s.i)
def wo(P:Program)(need:Nat)(ops:Array Oper)(Γ:Env)(n:Nat)(env:List I)(s:DStep)(v:I):Option Nat->J->oq->List Prop
 |d_,h,bj=>
  (match rp s d_ bj with
   |true=>[]
   |false=>FC P need ops Γ n env s v h)++
  (match bj with
   |[]=>[]
   |(e,_,an)::rest=>wo P need ops Γ n env s v (some e) an rest)
def B9(P:Program)(need:Nat)(ops:Array Oper)(Γ:Env)(n:Nat)(env:List I)(h:J)(bj:oq):List DStep->List Prop
 |[]=>[]
 |s::rest=>(match Nat.blt s.i n,kindOf P s.o.op with
   |true,.pure=>wo P need ops Γ n env s ((nth (n-1-s.i) env).getD .bad) none h bj
   |_,_=>[])++B9 P need ops Γ n env h bj rest
def B_(P:Program)(need:Nat)(ops:Array Oper)(Γ:Env)(n:Nat)(env:List I)(last:Option Nat)(h:J)(bj:oq):List DStep->List Prop
 |[]=>[]
 |s::rest=>(match Nat.blt s.i n,kindOf P s.o.op with
   |true,.pure=>wo P need ops Γ n env s ((nth (n-1-s.i) env).getD .bad) last h bj
   |_,_=>[])++B_ P need ops Γ n env last h bj rest
def FD(P:Program)(need:Nat)(inR:Bool)(call:aP)(ops:Array Oper)(st:ah)(hs:List Hint):lx (hp (bu×ah)):=
 match B8 P need inR call ops st.Γ st.h.n (fh ops.toList 0 [] []) ⟨[],st.d,st.q,st.h.room ops.size,[]⟩ hs with
 |.cY ⟨(v,⟨env,d,q,h,(e,m,h0)::bj⟩),cs,dw⟩=>.cY ⟨(.ca v,⟨B5 (jt ops.toList 0 []) st.Γ,d,q,h⟩),cs++B_ P need ops st.Γ env.length env (some e) h0 bj (fh ops.toList 0 [] []),dw⟩
 |.cY _=>.stop "no panic" none
 |.stop w x=>.stop w x
def FE(P:Program)(need:Nat)(inR:Bool)(call:aP)(ops:Array Oper)(st:ah)(hs:List Hint):lx (hp (bu×ah)):=
 match B7 P need inR call ops st.Γ st.h.n (fh ops.toList 0 [] []) ⟨[],st.d,st.q,st.h.room ops.size,[]⟩ hs with
 |.cY ⟨⟨env,d,q,h,bj⟩,cs,dw⟩=>.cY ⟨(.nrm,⟨rn need env.length env st.Γ (jt ops.toList 0 []) st.Γ,d,q,h⟩),cs++B9 P need ops st.Γ env.length env h bj (fh ops.toList 0 [] []),dw⟩
 |.stop _ _=>FD P need inR call ops st hs
def cQ(P:Program)(need:Nat)(rd:Option Nat)(call:aP)(c:Code)(st:ah)(e:bu)(b5:ah):Prop:=
 ∀r,Mod r st.Γ->∃r',dJ P need rd call c r st.d st.q st.h=.ok e r' b5.d b5.q b5.h/\Mod r' b5.Γ
def Uq(need:Nat)(Γ:Env)(loc:List (Nat×Acc)):na->Option (bu×ah)
 |.ok env d q h=>some (.nrm,⟨rn need env.length env Γ loc Γ,d,q,h⟩)
 |.ca v d q h=>some (.ca v,⟨B5 loc Γ,d,q,h⟩)
 |.fail _=>none
def l5(P:Program)(need:Nat)(rd:Option Nat)(call:aP):Code->ah->List Hint->lx (hp (bu×ah))
 |.skip,st,hs=>.cY ⟨(.nrm,st),[],hs⟩
 |.label _,st,hs=>.cY ⟨(.nrm,st),[],hs⟩
 |.exit id,st,hs=>.cY ⟨(.exit id,st),[],hs⟩
 |.ret,st,hs=>.cY ⟨(.ret,st),[],hs⟩
 |.scope b,st,hs=>l5 P need rd call b st hs
 |.region id ops draw,st,hs=>
  match draw with
  |false=>
   match B4 P need rd.isSome call st.Γ (pQ P need ops).steps [] st.d st.q st.h hs with
   |.cY ⟨x,cs,dw⟩=>match Uq need st.Γ (pQ P need ops).loc x with
    |some r=>.cY ⟨r,cs,dw⟩
    |none=>.stop "region" none
   |.stop w x=>.stop w x
  |true=>FE P need rd.isSome call ops st hs
 |.seq a b,st,hs=>match l5 P need rd call a st hs with
  |.cY ⟨(.nrm,b5),cs,dw⟩=>match l5 P need rd call b b5 dw with
   |.cY ⟨r,bT,uq⟩=>.cY ⟨r,cs++bT,uq⟩
   |.stop w x=>.stop w x
  |x=>x
 |.cond c a b,st,hs=>match oo 0 [] st.Γ (cR P need [] c) with
  |some (.bool x)=>match hs with
   |.b true::hs=>match l5 P need rd call a st hs with
    |.cY ⟨r,cs,dw⟩=>.cY ⟨r,(x=true)::cs,dw⟩
    |.stop w x=>.stop w x
   |.b false::hs=>match l5 P need rd call b st hs with
    |.cY ⟨r,cs,dw⟩=>.cY ⟨r,(x=false)::cs,dw⟩
    |.stop w x=>.stop w x
   |_=>.stop "if" (some x)
  |_=>.stop "if what" none
 |.block id b,st,hs=>match l5 P need rd call b st hs with
  |.cY ⟨(.exit i,b5),cs,dw⟩=>match Nat.beq i id with
   |true=>.cY ⟨(.nrm,b5),cs,dw⟩
   |false=>.cY ⟨(.exit i,b5),cs,dw⟩
  |x=>x
 |.loop b,st,hs=>match hs with
  |.loop e b5::hs=>.cY ⟨(e,b5),[cQ P need rd call (.loop b) st e b5],hs⟩
  |_=>.stop "loop" none
 |.rangeFunc f ps as cy,st,hs=>match hs with
  |.loop e b5::hs=>.cY ⟨(e,b5),[cQ P need rd call (.rangeFunc f ps as cy) st e b5],hs⟩
  |_=>.stop "range over a function" none
 |.goto _,_,_=>.stop "goto" none
 |.refuse _,_,_=>.stop "refuse" none
theorem FF:∀(p q:iF),p.num=q.num->p=q
 |.here,.here,_=>rfl
 |.here,.l q,h=>by simp only[iF.num] at h;omega
 |.here,.r q,h=>by simp only[iF.num] at h;omega
 |.l p,.here,h=>by simp only[iF.num] at h;omega
 |.r p,.here,h=>by simp only[iF.num] at h;omega
 |.l p,.l q,h=>by rw[FF p q (by simp only[iF.num] at h;omega)]
 |.r p,.r q,h=>by rw[FF p q (by simp only[iF.num] at h;omega)]
 |.l p,.r q,h=>by simp only[iF.num] at h;omega
 |.r p,.l q,h=>by simp only[iF.num] at h;omega
theorem K_(p:iF):hh p.num=p:=FF _ _ (A3 _)
theorem uu(t u:Nat):(t=u/\Nat.beq t u=true)\/(t≠u/\Nat.beq t u=false):=by
 by_cases h:t=u
 · exact .inl ⟨h,by simp[h]⟩
 · refine .inr ⟨h,?_⟩
   cases ae:Nat.beq t u with
   |false=>rfl
   |true=>exact absurd (Nat.eq_of_beq_eq_true ae) h
theorem FG(t u:Nat):∀Γ:Env,ej t (del u Γ)=if t=u then none else ej t Γ
 |[]=>by simp[del,ej]
 |(x,v)::l=>by
  have bb:=FG t u l
  simp only[del]
  rcases uu u x with⟨e,ae⟩|⟨e,ae⟩
  · rw[ae];simp only[bb,ej]
    subst e
    rcases uu t u with⟨ax,ec⟩|⟨ax,ec⟩
    · rw[if_pos ax,if_pos ax]
    · rw[if_neg ax,if_neg ax,ec]
  · rw[ae];simp only[ej,bb]
    rcases uu t x with⟨ax,ec⟩|⟨ax,ec⟩
    · rw[ec];simp only[]
      rw[if_neg]
      intro h;exact e (by rw[<-h,ax])
    · rw[ec]
theorem Ur(t u:Nat)(v:I)(Γ:Env):ej t (put u v Γ)=if t=u then some v else ej t Γ:=by
 simp only[put,ej]
 rcases uu t u with⟨e,ae⟩|⟨e,ae⟩
 · rw[ae,if_pos e]
 · rw[ae,if_neg e,FG,if_neg e]
theorem Mod.put{r:a2}{Γ:Env}(h:Mod r Γ)(t:Nat)(v:I):Mod (r.set (hh t) v) (put t v Γ):=by
 intro u x ab
 rw[Ur] at ab
 rw[a2.c7]
 by_cases e:u=t
 · rw[if_pos e] at ab⊢;cases ab;rfl
 · rw[if_neg e] at ab⊢;exact h u x ab
theorem Mod.del{r:a2}{Γ:Env}(h:Mod r Γ)(t:Nat)(v:I):Mod (r.set (hh t) v) (del t Γ):=by
 intro u x ab
 rw[FG] at ab
 rw[a2.c7]
 by_cases e:u=t
 · rw[if_pos e] at ab;cases ab
 · rw[if_neg e] at ab⊢;exact h u x ab
theorem FH(Γ:Env)(t:Nat)(v:I):∀l,ej t (ny Γ l)=some v->ej t Γ=some v
 |[],h=>by simp[ny,ej] at h
 |u::l,h=>by
  simp only[ny] at h
  cases hu:ej u Γ with
  |none=>rw[hu] at h;exact FH Γ t v l h
  |some x=>
   rw[hu] at h
   simp only[ej] at h
   rcases uu t u with⟨e,ae⟩|⟨e,ae⟩
   · rw[ae] at h;rw[e,hu];exact h
   · rw[ae] at h;exact FH Γ t v l h
theorem Mod.ny{r:a2}{Γ:Env}(h:Mod r Γ)(l:List Nat):Mod r (ny Γ l):=λt v bc=>h t v (FH Γ t v l bc)
theorem uv{m:Nat}{env:List I}{r:a2}{Γ:Env}(hm:Mod r Γ){a:Acc}{v:I}(h:oo m env Γ a=some v):dI m env r a=v:=by
 cases a with
 |env j=>simp only[oo] at h;simp only[dI,h,Option.getD_some]
 |reg p=>simp only[oo] at h;simp only[dI];rw[<-K_ p];exact hm _ _ h
 |val x=>cases h;rfl
section
variable {P:Program}
theorem uw{o:Oper}{g:Operand->I}{h:J}{v:I}(ag:o9 P o g h v):cP P o g h=.val v h:=by
 obtain⟨dst,op,type,pos,after,guard⟩:=o
 cases op<;>simp only[o9] at ag<;>(try exact ag.elim)
 case load t a=>
  split at ag
  · rename_i b off n al aL aN
    simp only[cP,al,aL,ag,fT]
  · rename_i b off n al aL aN
    split at ag
    · simp only[cP,al,aL,aN,ag]
    · exact ag.elim
  · exact ag.elim
 case binOp op t x y yt=>
  split at ag
  · rename_i k a dh b ab aU
    split at ag
    · simp only[cP,ab,aU,dZ,ag,fT]
    · simp only[cP,ab,aU,dZ,ag,fT]
    · rename_i ie kH
      split at ag
      · rename_i aq
        have e0:k=dh:=of_decide_eq_true aq
        simp only[cP,ab,aU,dZ]
        cases op<;>first|exact absurd rfl ie|exact absurd rfl kH|(simp only[if_pos e0,ag,fT])
      · exact ag.elim
  · rename_i a b ab aU
    simp only[cP,ab,aU,dZ,ag,fT]
  · simp only[cP,ag,fT]
 case unOp op t x=>
  split at ag
  · rename_i k n ab;simp only[cP,ab,ag]
  · rename_i k n ab;simp only[cP,ab,ag,fT]
  · exact ag.elim
 case slice t x aI af mx=>simp only[cP,ag,fT]
 case index t x i=>
  split at ag
  · rename_i s n hu ab af
    unfold g7 at ag
    simp only[cP,hu,ab,af]
    split at ag
    · rename_i fy ae;cases ag;simp only[ae]
    · cases ag
  · rename_i m e cs n hu ab af
    split at ag
    · rename_i sz bA
      simp only[cP,hu,ab,af,bA,if_pos ag.1,ag.2,fT]
    · exact ag.elim
  · exact ag.elim
 case indexAddr t x i=>
  split at ag
  · rename_i m e b off n hu ab af
    split at ag
    · rename_i sz bA
      simp only[cP,hu,ab,af,bA,if_pos ag.1,ag.2]
    · exact ag.elim
  · rename_i e b off m c n hu ab af
    split at ag
    · rename_i sz bA
      simp only[cP,hu,ab,af,bA,if_pos ag.1,ag.2]
    · exact ag.elim
  · exact ag.elim
 case lookup t x i ok=>simp only[cP,ag,fT]
 case entry it=>simp only[cP,ag,fT]
 case convert src dst x=>simp only[cP,ag]
 case call c=>
  split at ag
  · rename_i x t jP hW bc;simp only[cP,jP,hW,iz,bc,ag,fT]
  · rename_i x t jP hW bc;simp only[cP,jP,hW,iz,bc,ag,fT]
  · rename_i x l _ jP hW;simp only[cP,jP,hW,iz,ag,fT]
  · rename_i x l _ jP hW;simp only[cP,jP,hW,iz,ag,fT]
  · rename_i x t jP hW bc
    simp only[cP,jP,hW]
    simp only[iz,bc] at ag⊢
    exact ag
  · exact ag.elim
theorem La:∀(n:Nat) (cs bT:List I),fS n [I.bad] cs=some bT->False
 |0,[],_,h=>by simp[fS] at h
 |0,_::_,_,h=>by simp[fS,I.cO] at h
 |_+1,[],_,h=>by simp[fS] at h
 |n+1,c::cs,bT,h=>by
  simp only[fS] at h
  split at h
  · rename_i r aj;exact La n cs r aj
  · cases h
theorem Us{h an:J}{b off:Nat}(hs:bt.storeCells h b off (I.cells .bad)=some an):False:=by
 unfold bt.storeCells at hs
 split at hs
 · split at hs
   · split at hs
     · rename_i aQ;exact La _ _ _ aQ
     · cases hs
   · cases hs
 · cases hs
theorem FI{o:Oper}{g:Operand->I}{h an:J}{v:I}(ag:wj P o g h v an):cP P o g h=.val v an:=by
 obtain⟨dst,op,type,pos,after,guard⟩:=o
 cases op<;>simp only[wj] at ag<;>(try exact ag.elim)
 case store t a x=>
  split at ag
  · rename_i b off al
    obtain⟨aa,ad,rfl⟩:=ag
    simp only[cP,al]
    rw[aa]
    have ae:g x≠ .bad:=λae=>by
     rw[ae] at ad
     exact Us ad
    cases e_:g x<;>first|exact absurd e_ ae|(rw[e_] at ad;simp[ad,qP])
  · exact ag.elim
 case convert src dst x=>simp only[cP,ag]
 case mapUpdate t m k x=>obtain⟨aa,rfl⟩:=ag;simp only[cP,aa,qP]
 case insert t m k x=>obtain⟨aa,rfl⟩:=ag;simp only[cP,aa,qP]
 case mapEntry t m k=>simp only[cP,ag,lV]
 case entryStore t m s x=>obtain⟨aa,rfl⟩:=ag;simp only[cP,aa,qP]
 case next it isStr=>simp only[cP,ag,lV]
 case range t x=>
  split at ag
  · rename_i kt jI hu
    unfold B1 at ag
    split at ag
    · rename_i m al
      split at ag
      · rename_i es c hm
        cases ag
        simp only[cP,hu,al,hm]
      · cases ag
    · cases ag
  · exact ag.elim
 case makeSlice t l c=>
  unfold B0 at ag
  simp only[cP]
  split at ag
  · rename_i e oZ c' hu aw y2
    split at ag
    · rename_i i z af aW
      simp only[hu,aw,y2,af,aW]
      split at ag
      · rename_i kT
        rw[if_pos kT]
        split at ag
        · rename_i b ak aN;cases ag;simp only[aN]
        · cases ag
      · cases ag
    · cases ag
  · cases ag
 case call c=>
  split at ag
  · rename_i x y t jP hW bc;simp only[cP,jP,hW,iz,bc,ag,lV]
  · rename_i x y t jP hW bc;simp only[cP,jP,hW,iz,bc,ag,lV]
  · rename_i x t jP hW bc;simp only[cP,jP,hW,iz,bc,ag,lV]
  · rename_i x y t jP hW bc;simp only[cP,jP,hW,iz,bc,ag,lV]
  · rename_i x y t jP hW bc;simp only[cP,jP,hW,iz,bc,ag,lV]
  · exact ag.elim
variable {inR:Bool} {call:aP}
theorem Lb{pos:String}{f:eJ}{args:List I}{d:List bZ}{q:bL}{h:J}{hs:List Hint}{y:hp nz}(ab:B2 call pos f args d q h hs=.cY y)(ag:eE y.cs):x3 d q (call f args h)=y.res.res:=by
 unfold B2 at ab
 split at ab
 · cases ab;rw[ag.1];rfl
 · cases ab;rw[ag.1];rfl
 · cases ab
theorem Ut{o:Oper}{g:Operand->I}{d:List bZ}{q:bL}{h:J}{hs:List Hint}{y:hp nz}(ab:Fz P inR call o g d q h hs=.cY y)(ag:eE y.cs):
  dV P inR call none o g d q h=y.res.res:=by
 unfold Fz at ab
 unfold dV
 simp only[eK]
 split at ab
 · cases ab
   rw[uw ag.1];rfl
 · split at ab
   · rename_i e x dw bE
     cases ab
     have aa:(g x).cells.all I.cO=true:=ag.1.h
     have he:o.op=.box e x:=by
      unfold K2 at bE
      split at bE
      · split at bE
        · rename_i he;cases bE;exact he
        · cases bE
      · cases bE
     have:cP P o g h=.val (.ptr h.n 0) (h.push (.cells (g x).cells e .own 0 0)):=by
      unfold cP;rw[he];simp only[newRow,aa]
     rw[this];rfl
   · split at ab
     · split at ab
       · rename_i fA;cases ab;rw[fA];rfl
       · rename_i fA;cases ab;rw[fA];rfl
       · rename_i fA;rw[fA];exact Lb ab ag
       · rename_i fA;rw[fA];exact Lb ab ag
       · rename_i z fA
         split at ab
         · cases ab
         · cases ab;rw[fA];rfl
       · rename_i fA
         split at ab
         · cases ab
         · split at ab
           · cases ab;rw[fA];rfl
           · cases ab;rw[fA];rfl
           · cases ab;rw[fA];rfl
       · cases ab
     · split at ab
       · cases ab
         rw[uw ag.1];rfl
       · cases ab
     · split at ab
       · cases ab
         rw[FI ag.1];rfl
       · cases ab
theorem Lc{o:Oper}{g:Operand->I}{d:List bZ}{q:bL}{h:J}{hs:List Hint}{y:hp nz}(ab:B3 P inR call o g d q h hs=.cY y)(ag:eE y.cs):
  dV P inR call none o g d q h=y.res.res:=by
 unfold B3 at ab
 cases aQ:FA o g d q h hs with
 |none=>rw[aQ] at ab;exact Ut ab ag
 |some z=>
  rw[aQ] at ab
  simp only at ab
  subst ab
  unfold FA at aQ
  split at aQ
  · rename_i gx a b eV
    split at aQ
    · rename_i fy al
      split at aQ
      · cases aQ
        obtain⟨rfl,_⟩:=ag
        unfold dV cP
        simp[eK,eV,al,nz.res]
      · cases aQ
        obtain⟨rfl,_⟩:=ag
        unfold dV cP
        simp[eK,eV,al,nz.res]
      · cases aQ
    · cases aQ
  · cases aQ
theorem wq{gd:Option (I×Bool)}(hw:eK gd=some true)(o:Oper)(g:Operand->I)(d:List bZ)(q:bL)(h:J):dV P inR call gd o g d q h=dV P inR call none o g d q h:=by
 unfold dV
 rw[hw]
 rfl
theorem zc{gd:Option (I×Bool)}(hw:eK gd=some false)(o:Oper)(g:Operand->I)(d:List bZ)(q:bL)(h:J):dV P inR call gd o g d q h=.ok (.aO []) d q h:=by
 unfold dV
 simp only[hw]
theorem zd{gd:Option (I×Bool)}{o:Oper}{g:Operand->I}{d:List bZ}{q:bL}{h:J}{hs:List Hint}{y:hp nz}(ab:wk P inR call gd o g d q h hs=.cY y)(ag:eE y.cs):
  dV P inR call gd o g d q h=y.res.res:=by
 unfold wk at ab
 split at ab
 · exact Lc ab ag
 · rename_i afN b
   split at ab
   · rename_i c ie
     split at ab
     · rename_i mz
       split at ab
       · rename_i s kk kH ft
         cases ab
         obtain⟨rfl,wu⟩:=ag
         rw[wq (by simp only[eK];rw[mz])]
         exact(Lc ft wu:)
       · cases ab
     · rename_i mz
       cases ab
       obtain⟨rfl,_⟩:=ag
       rw[zc (by simp only[eK];rw[mz])];rfl
   · cases ab
 · cases ab
   rw[zc rfl];rfl
 · cases ab
variable {need:Nat}
theorem Ca{m:Nat}{env:List I}{r:a2}{Γ:Env}(hm:Mod r Γ){loc:List (Nat×Acc)}{o:Oper}(aq:wm P need m env Γ loc o=true):∀x∈o.op.operands,dI m env r (cR P need loc x)=ly P need m env Γ loc x:=by
 intro x ab
 unfold wm at aq
 rw[List.all_eq_true] at aq
 have:=aq x (by simpa using ab)
 obtain⟨v,aD⟩:=Option.isSome_iff_exists.1 this
 unfold ly
 rw[aD,uv hm aD];rfl
theorem Ld{r:a2}{Γ:Env}(hm:Mod r Γ):∀(l:List Step) (env:List I) (d:List bZ) (q:bL) (h:J) (hs:List Hint) (y:hp na),B4 P need inR call Γ l env d q h hs=.cY y->eE y.cs->
  iG P need inR call r l env d q h=y.res
 |[],env,d,q,h,hs,y,ab,ag=>by cases ab;rfl
 |s::rest,env,d,q,h,hs,y,ab,ag=>by
  simp only[B4] at ab
  split at ab
  · cases ab
  · rename_i aq
    split at ab
    · cases ab
    · rename_i gd gK
      have key:∀z,dV P inR call gd s.o (ly P need s.m env Γ s.loc) d q h=z->iG P need inR call r (s::rest) env d q h=match z with
        |.ok v bh bn an=>iG P need inR call r rest (v::env) bh bn an
        |.ca v bh bn an=>.ca v bh bn an
        |.fail w=>.fail w:=λz aW=>by
       simp only[iG]
       rw[<-aW,<-uh (Ca hm aq)]
       unfold K3 at gK
       cases Fg:s.guard with
       |none=>rw[Fg] at gK;cases gK;rfl
       |some p=>
        obtain⟨a,b⟩:=p
        rw[Fg] at gK
        simp only at gK
        cases aD:oo s.m env Γ a with
        |none=>rw[aD] at gK;cases gK
        |some v=>rw[aD] at gK;cases gK;simp only[uv hm aD];rfl
      split at ab
      · rename_i v bh bn an kk ie fW
        split at ab
        · rename_i z ze kH n7
          cases ab
          obtain⟨aF,a6⟩:=eE.append ag
          have aa:=zd fW aF
          have hq:dV P inR call gd s.o (ly P need s.m env Γ s.loc) d q h=.ok v bh bn an:=aa
          rw[key _ hq]
          exact(Ld hm rest (v::env) bh bn an ie _ n7 a6:)
        · cases ab
      · rename_i v bh bn an kk ie fW
        cases ab
        have aa:=zd fW ag
        have hq:dV P inR call gd s.o (ly P need s.m env Γ s.loc) d q h=.ca v bh bn an:=aa
        rw[key _ hq]
      · cases ab
theorem Cb{m:Nat}{env:List I}{fM:a2}{gM:Env}(hm:Mod fM gM):∀(l:List (Nat×Acc)) (r:a2) (Γ:Env),Mod r Γ->Mod (pR need m env fM l r) (rn need m env gM l Γ)
 |[],r,Γ,h=>h
 |(t,a)::l,r,Γ,h=>by
  have bb:=Cb (m:=m) (env:=env) hm l r Γ h
  simp only[pR,rn]
  cases Nat.testBit need t with
  |false=>exact bb
  |true=>
   simp only
   cases al:oo m env gM a with
   |some v=>simp only;rw[uv hm al];exact bb.put t v
   |none=>simp only;exact bb.del t _
theorem FJ:∀(l:List (Nat×Acc)) (r:a2) (Γ:Env),Mod r Γ->Mod (vG l r) (B5 l Γ)
 |[],r,Γ,h=>h
 |(t,a)::l,r,Γ,h=>(FJ l r Γ h).del t _
mutual
theorem ux:∀v:I,v.sound=true->I.beq v v=true
 |.bool b,_=>by simp[I.beq]
 |.int k n,_=>by simp[I.beq,a8]
 |.str s,_=>by simp[I.beq,n_]
 |.aZ,_=>rfl
 |.ptr a i,_=>by simp[I.beq]
 |.aS,_=>rfl
 |.slice a i n c,_=>by cases c<;>simp[I.beq,bR.beq]
 |.ix,_=>rfl
 |.map a,_=>by simp[I.beq]
 |.gb,_=>rfl
 |.fn f a b,h=>by
  simp only[I.sound,Bool.and_eq_true] at h
  simp only[I.beq,zf a h.1,zf b h.2,Bool.and_true]
  simp
 |.dt a,_=>by simp[I.beq]
 |.e7,_=>rfl
 |.iface t v,h=>by
  simp only[I.sound] at h
  simp only[I.beq,ux v h,Bool.and_true]
  simp
 |.agg l,h=>by
  simp only[I.sound] at h
  simp only[I.beq,zf l h]
 |.aO l,h=>by
  simp only[I.sound] at h
  simp only[I.beq,zf l h]
 |.bad,h=>by simp[I.sound] at h
theorem zf:∀l:List I,j6 l=true->I.n3 l l=true
 |[],_=>rfl
 |a::l,h=>by
  simp only[j6,Bool.and_eq_true] at h
  simp only[I.n3,ux a h.1,zf l h.2,Bool.and_true]
end
theorem FK{ops:Array Oper}{r:a2}{Γ:Env}(hm:Mod r Γ){n:Nat}{env:List I}{s:DStep}{gd:Option (I×Bool)}(h:za P need ops n env Γ s=some gd):g9 P need ops r n env s=gd:=by
 unfold za at h
 unfold g9
 split at h
 · rename_i al;rw[al];cases h;rfl
 · rename_i a b al
   rw[al]
   split at h
   · rename_i v aD
     cases h
     simp only[uv hm aD]
   · cases h
def Uu(P:Program)(need:Nat)(inR:Bool)(call:aP)(ops:Array Oper)(r:a2)(cJ:Nat)(s:DStep)(st b5:ko):Prop:=
 ∀rest,gC P need inR call ops r cJ (s::rest) st.env st.d st.q st.h st.bj=gC P need inR call ops r cJ rest b5.env b5.d b5.q b5.h b5.bj
theorem Le{ops:Array Oper}{r:a2}{Γ:Env}(hm:Mod r Γ){cJ:Nat}{s:DStep}{st:ko}{hs:List Hint}{y:hp ko}(ab:B6 P need inR call ops Γ cJ s st hs=.cY y)(ag:eE y.cs):Uu P need inR call ops r cJ s st y.res:=by
 intro rest
 unfold B6 at ab
 split at ab
 · cases ab
 · rename_i aq
   have al:=Ca hm aq
   split at ab
   · cases ab
   · rename_i gd gK
     have ao:=FK hm gK
     split at ab
     · rename_i hr
       have aL:=yV (P:=P) (o:=s.o.op) (b:=cJ+s.i) al
       simp only[gC,hr,ao]
       rw[aL]
       unfold K8 at ab
       split at ab
       · split at ab
         · cases ab
           have ho:=K7 ag.1
           simp only[eK,ho]
         · split at ab
           · rename_i v o ho
             cases ab
             simp only[eK,ho]
           · cases ab
       · split at ab
         · rename_i x c _ jQ ie
           split at ab
           · rename_i FL
             split at ab
             · rename_i v o ho
               cases ab
               obtain⟨rfl,_⟩:=ag
               simp only[eK,FL,ho]
             · cases ab
           · rename_i FL
             cases ab
             obtain⟨rfl,_⟩:=ag
             simp only[eK,FL]
         · cases ab
       · cases ab
         simp only[eK]
       · cases ab
     · rename_i hr
       simp only[gC,hr,ao]
       rw[uh al]
       split at ab
       · rename_i v bh bn an kk ie fW
         cases ab
         have aa:=zd fW ag
         have hq:dV P inR call gd s.o (ly P need s.i st.env Γ s.loc) st.d st.q st.h=.ok v bh bn an:=aa
         rw[hq]
       · cases ab
       · cases ab
     · rename_i hr
       split at ab
       · cases ab
       · rename_i l4
         simp only[gC,hr,ao]
         rw[uh al]
         split at ab
         · rename_i v bh bn an kk ie fW
           cases ab
           have aa:=zd fW ag
           have hq:dV P inR call gd s.o (ly P need s.i st.env Γ s.loc) st.d st.q st.h=.ok v bh bn an:=aa
           rw[hq]
           cases cA:st.bj with
           |nil=>rfl
           |cons a l=>
            obtain⟨e,m,ak⟩:=a
            rw[cA] at l4
            simp only[ur] at l4
            simp only[l4]
         · cases ab
         · cases ab
theorem Lf{ops:Array Oper}{r:a2}{Γ:Env}(hm:Mod r Γ){cJ:Nat}:∀(l:List DStep) (st:ko) (hs:List Hint) (y:hp ko),B7 P need inR call ops Γ cJ l st hs=.cY y->eE y.cs->
  gC P need inR call ops r cJ l st.env st.d st.q st.h st.bj=.ok y.res.env y.res.d y.res.q y.res.h y.res.bj
 |[],st,hs,y,ab,ag=>by cases ab;rfl
 |s::rest,st,hs,y,ab,ag=>by
  simp only[B7] at ab
  split at ab
  · rename_i st1 kk ie aa
    split at ab
    · rename_i kp ze kH ad
      cases ab
      obtain⟨aF,a6⟩:=eE.append ag
      rw[Le hm aa aF rest]
      exact(Lf hm rest st1 ie ⟨kp,ze,kH⟩ ad a6:)
    · cases ab
  · cases ab
theorem Uv{o:Oper}{g:Operand->I}{h:J}{v:I}(ag:eE (zb P o g h v)):∃v' an,cP P o g h=.val v' an/\I.beq v' v=true:=by
 unfold zb at ag
 split at ag
 · rename_i x a b aQ
   obtain⟨aa,ad,_⟩:=ag
   refine⟨v,h,?_,ux v aa⟩
   unfold K9 at aQ
   split at aQ
   · rename_i c cF hT aY
     split at aQ
     · rename_i E4 Cc
       cases aQ
       cases x<;>simp only[cP,aY,Cc]<;>rw[<-ad]<;>rfl
     · cases aQ
   · cases aQ
 split at ag
 · exact⟨v,h,uw ag.2.1,ux v ag.1⟩
 split at ag
 · exact⟨v,h,uw ag.2.1,ux v ag.1⟩
 · split at ag
   · rename_i v' an he
     obtain⟨aa,rfl,_⟩:=ag
     exact⟨v',an,he,ux v' aa⟩
   · exact ag.1.elim
theorem Lg{ops:Array Oper}{r:a2}{Γ:Env}(hm:Mod r Γ){n:Nat}{env:List I}{s:DStep}{v:I}{h:J}(ag:eE (FC P need ops Γ n env s v h)):mv P need ops r n env s v h=true:=by
 unfold FC at ag
 unfold mv
 split at ag
 · rename_i gd aq gK
   rw[FK hm gK]
   have al:=Ca hm aq
   have key:eE (zb P s.o (ly P need n env Γ s.loc) h v)->(match cP P s.o (λx=>dI n env r (cR P need s.loc x)) h with
     |.val v' _=>I.beq v' v
     |_=>false)=true:=λaw=>by
    rw[yU s.o h al]
    obtain⟨v',an,aA,ax⟩:=Uv aw
    rw[aA];exact ax
   split at ag
   · simp only[eK];exact key ag
   · rename_i x b
     simp only[eK]
     obtain⟨ag,_⟩:=ag
     unfold lookW at ag
     split at ag
     · rw[ag]
     · cases vU:(x==b) with
       |false=>rfl
       |true=>exact key ag
   · rfl
   · exact ag.1.elim
 · exact ag.1.elim
theorem Cd{ops:Array Oper}{r:a2}{n:Nat}{env:List I}{s:DStep}{v:I}(d_:Option Nat)(h:J)(bj:oq):lk P need ops r n env s v d_ h bj=
  ((match rp s d_ bj with|true=>true|false=>mv P need ops r n env s v h)&&(match bj with|[]=>true|(e,_,an)::rest=>lk P need ops r n env s v (some e) an rest)):=by
 cases bj<;>(rw[lk.eq_def];rfl)
theorem FM{ops:Array Oper}{r:a2}{Γ:Env}(hm:Mod r Γ){n:Nat}{env:List I}{s:DStep}{v:I}:∀(bj:oq) (d_:Option Nat) (h:J),eE (wo P need ops Γ n env s v d_ h bj)->lk P need ops r n env s v d_ h bj=true
 |[],d_,h,ag=>by
  rw[Cd]
  unfold wo at ag
  obtain⟨aF,_⟩:=eE.append ag
  cases ae:rp s d_ [] with
  |true=>rfl
  |false=>rw[ae] at aF;simp only[Bool.and_true];exact Lg hm aF
 |(e,m,an)::rest,d_,h,ag=>by
  rw[Cd]
  unfold wo at ag
  obtain⟨aF,a6⟩:=eE.append ag
  have bb:=FM hm rest (some e) an a6
  cases ae:rp s d_ ((e,m,an)::rest) with
  |true=>simp only[Bool.true_and];exact bb
  |false=>
   rw[ae] at aF
   simp only
   rw[Lg hm aF,Bool.true_and];exact bb
theorem Lh{ops:Array Oper}{r:a2}{Γ:Env}(hm:Mod r Γ){n:Nat}{env:List I}{h:J}{bj:oq}:∀(l:List DStep),eE (B9 P need ops Γ n env h bj l)->lW P need ops r n env none h bj l=true
 |[],_=>rfl
 |s::rest,ag=>by
  simp only[B9] at ag
  obtain⟨aF,a6⟩:=eE.append ag
  simp only[lW]
  rw[Lh hm rest a6,Bool.and_true]
  cases aa:Nat.blt s.i n with
  |false=>rfl
  |true=>
   rw[aa] at aF
   cases ad:kindOf P s.o.op with
   |pure=>rw[ad] at aF;exact FM hm bj none h aF
   |alloc=>rfl
   |ew=>rfl
theorem Uw{ops:Array Oper}{r:a2}{Γ:Env}(hm:Mod r Γ){cJ:Nat}{s:DStep}{rest:List DStep}{st:ko}{hs:List Hint}{y:hp (I×ko)}(ab:FB P need inR call ops Γ s rest st hs=.cY y)(ag:eE y.cs):
  gC P need inR call ops r cJ (s::rest) st.env st.d st.q st.h st.bj=.ca y.res.1 y.res.2.env y.res.2.d y.res.2.q y.res.2.h y.res.2.bj:=by
 unfold FB at ab
 split at ab
 · cases ab
 · rename_i aq
   have al:=Ca hm aq
   split at ab
   · cases ab
   · rename_i gd gK
     have ao:=FK hm gK
     split at ab
     · rename_i hr
       split at ab
       · cases ab
       · rename_i l4
         simp only[gC,hr,ao]
         rw[uh al]
         split at ab
         · rename_i v bh bn an kk ie fW
           split at ab
           · rename_i eB
             cases ab
             have aa:=zd fW ag
             have hq:dV P inR call gd s.o (ly P need s.i st.env Γ s.loc) st.d st.q st.h=.ca v bh bn an:=aa
             rw[hq]
             cases cA:st.bj with
             |nil=>simp only[eB]
             |cons a l=>
              obtain⟨e,m,ak⟩:=a
              rw[cA] at l4
              simp only[ur] at l4
              simp only[l4,eB]
           · cases ab
         · cases ab
     · cases ab
theorem Li{ops:Array Oper}{r:a2}{Γ:Env}(hm:Mod r Γ){cJ:Nat}:∀(l:List DStep) (st:ko) (hs:List Hint) (y:hp (I×ko)),B8 P need inR call ops Γ cJ l st hs=.cY y->eE y.cs->
  gC P need inR call ops r cJ l st.env st.d st.q st.h st.bj=.ca y.res.1 y.res.2.env y.res.2.d y.res.2.q y.res.2.h y.res.2.bj
 |[],st,hs,y,ab,ag=>by cases ab
 |s::rest,st,hs,y,ab,ag=>by
  simp only[B8] at ab
  split at ab
  · rename_i jQ aa
    cases ab
    exact Uw hm aa ag
  · split at ab
    · rename_i st1 kk ie aa
      split at ab
      · rename_i kp ze kH ad
        cases ab
        obtain⟨aF,a6⟩:=eE.append ag
        rw[Le hm aa aF rest]
        exact(Li hm rest st1 ie ⟨kp,ze,kH⟩ ad a6:)
      · cases ab
    · cases ab
theorem Lj{ops:Array Oper}{r:a2}{Γ:Env}(hm:Mod r Γ){n:Nat}{env:List I}{last:Option Nat}{h:J}{bj:oq}:∀(l:List DStep),eE (B_ P need ops Γ n env last h bj l)->lW P need ops r n env last h bj l=true
 |[],_=>rfl
 |s::rest,ag=>by
  simp only[B_] at ag
  obtain⟨aF,a6⟩:=eE.append ag
  simp only[lW]
  rw[Lj hm rest a6,Bool.and_true]
  cases aa:Nat.blt s.i n with
  |false=>rfl
  |true=>
   rw[aa] at aF
   cases ad:kindOf P s.o.op with
   |pure=>rw[ad] at aF;exact FM hm bj last h aF
   |alloc=>rfl
   |ew=>rfl
theorem Ux{id:Nat}{ops:Array Oper}{rd:Option Nat}{st:ah}{hs:List Hint}{y:hp (bu×ah)}(ab:FD P need rd.isSome call ops st hs=.cY y)(ag:eE y.cs):cQ P need rd call (.region id ops true) st y.res.1 y.res.2:=by
 unfold FD at ab
 split at ab
 · rename_i v env d q h e m h0 bj kk ie ao
   cases ab
   obtain⟨aF,a6⟩:=eE.append ag
   intro r hm
   have aa:=Li hm _ _ _ _ ao aF
   have ad:=Lj hm _ a6
   simp only at aa
   refine⟨_,?_,FJ _ _ _ hm⟩
   have hq:gC P need rd.isSome call ops r st.h.n (fh ops.toList 0 [] []) [] st.d st.q ⟨st.h.t,st.h.n+ops.size⟩ []=.ca v env d q h ((e,m,h0)::bj):=aa
   simp only[dJ,tD,hq,ad,nd]
 · cases ab
 · cases ab
theorem Uy{id:Nat}{ops:Array Oper}{rd:Option Nat}{st:ah}{hs:List Hint}{y:hp (bu×ah)}(ab:FE P need rd.isSome call ops st hs=.cY y)(ag:eE y.cs):cQ P need rd call (.region id ops true) st y.res.1 y.res.2:=by
 unfold FE at ab
 split at ab
 · rename_i env d q h bj kk ie ao
   cases ab
   obtain⟨aF,a6⟩:=eE.append ag
   intro r hm
   have aa:=Lf hm _ _ _ _ ao aF
   have ad:=Lh hm _ a6
   simp only at aa
   refine⟨_,?_,Cb hm _ _ _ hm⟩
   have hq:gC P need rd.isSome call ops r st.h.n (fh ops.toList 0 [] []) [] st.d st.q ⟨st.h.t,st.h.n+ops.size⟩ []=.ok env d q h bj:=aa
   simp only[dJ,tD,hq,ad,nd]
 · exact Ux ab ag
variable {rd:Option Nat}
theorem qc:∀(c:Code) (st:ah) (hs:List Hint) (y:hp (bu×ah)),l5 P need rd call c st hs=.cY y->eE y.cs->cQ P need rd call c st y.res.1 y.res.2
 |.skip,st,hs,y,ab,ag=>by cases ab;exactλr aj=>⟨r,rfl,aj⟩
 |.label _,st,hs,y,ab,ag=>by cases ab;exactλr aj=>⟨r,rfl,aj⟩
 |.exit id,st,hs,y,ab,ag=>by cases ab;exactλr aj=>⟨r,rfl,aj⟩
 |.ret,st,hs,y,ab,ag=>by cases ab;exactλr aj=>⟨r,rfl,aj⟩
 |.scope b,st,hs,y,ab,ag=>qc b st hs y ab ag
 |.region id ops draw,st,hs,y,ab,ag=>by
  simp only[l5] at ab
  cases draw with
  |true=>exact Uy ab ag
  |false=>
   simp only at ab
   split at ab
   · rename_i x kk ie cA
     split at ab
     · rename_i r1 FN
       cases ab
       intro r aj
       have aa:=Ld aj _ _ _ _ _ _ _ cA ag
       simp only at aa
       simp only[dJ,aa]
       cases x with
       |ok env d q h=>cases FN;exact⟨_,rfl,Cb aj _ _ _ aj⟩
       |ca v d q h=>cases FN;exact⟨_,rfl,FJ _ _ _ aj⟩
       |fail w=>cases FN
     · cases ab
   · cases ab
 |.seq a b,st,hs,y,ab,ag=>by
  simp only[l5] at ab
  split at ab
  · rename_i st1 kk ie aL
    split at ab
    · rename_i r2 ze kH ae
      cases ab
      obtain⟨aF,a6⟩:=eE.append ag
      intro r aj
      obtain⟨r1,aa,a5⟩:=qc a st hs _ aL aF r aj
      obtain⟨r2,ad,bX⟩:=qc b st1 ie _ ae a6 r1 a5
      exact⟨r2,by simp only at aa ad;simp only[dJ,aa,qQ,ad],bX⟩
    · cases ab
  · rename_i cX
    intro r aj
    obtain⟨r1,aa,a5⟩:=qc a st hs y ab ag r aj
    refine⟨r1,?_,a5⟩
    simp only[dJ,aa]
    refine tZ (λcI=>?_)
    obtain⟨⟨aA,st1⟩,kk,ie⟩:=y
    simp only at cI
    subst cI
    exact cX _ _ _ ab
 |.cond c a b,st,hs,y,ab,ag=>by
  simp only[l5] at ab
  split at ab
  · rename_i x al
    split at ab
    · split at ab
      · rename_i r1 kk ie aL
        cases ab
        obtain⟨rfl,aF⟩:=ag
        intro r aj
        obtain⟨r1,aa,a5⟩:=qc a st _ _ aL aF r aj
        exact⟨r1,by simp only at aa;simp only[dJ,uv aj al,aa],a5⟩
      · cases ab
    · split at ab
      · rename_i r1 kk ie aL
        cases ab
        obtain⟨rfl,aF⟩:=ag
        intro r aj
        obtain⟨r1,aa,a5⟩:=qc b st _ _ aL aF r aj
        exact⟨r1,by simp only at aa;simp only[dJ,uv aj al,aa],a5⟩
      · cases ab
    · cases ab
  · cases ab
 |.block id b,st,hs,y,ab,ag=>by
  simp only[l5] at ab
  split at ab
  · rename_i i st1 kk ie ae
    split at ab
    · rename_i af
      cases ab
      obtain rfl:=Nat.eq_of_beq_eq_true af
      intro r aj
      obtain⟨r1,aa,a5⟩:=qc b st hs _ ae ag r aj
      exact⟨r1,by simp only at aa;simp only[dJ,aa,if_true],a5⟩
    · rename_i af
      cases ab
      intro r aj
      obtain⟨r1,aa,a5⟩:=qc b st hs _ ae ag r aj
      have cX:¬i=id:=by intro cI;subst cI;simp at af
      exact⟨r1,by simp only at aa;simp only[dJ,aa,if_neg cX],a5⟩
  · rename_i cX
    intro r aj
    obtain⟨r1,aa,a5⟩:=qc b st hs y ab ag r aj
    refine⟨r1,?_,a5⟩
    obtain⟨⟨aA,st1⟩,kk,ie⟩:=y
    simp only at aa
    simp only[dJ,aa]
    cases aA<;>first|rfl|exact absurd ab (cX _ _ _ _)
 |.loop b,st,hs,y,ab,ag=>by
  simp only[l5] at ab
  split at ab
  · cases ab;exact ag.1
  · cases ab
 |.rangeFunc f ps as cy,st,hs,y,ab,ag=>by
  simp only[l5] at ab
  split at ab
  · cases ab;exact ag.1
  · cases ab
 |.goto _,st,hs,y,ab,ag=>by cases ab
 |.refuse _,st,hs,y,ab,ag=>by cases ab
end
theorem wv{z:Bool}(h:z=true):(Decidable.rec (motive:=λ_=>Bool) (λh=>(λx=>false) h) (λh=>(λx=>true) h) (instDecidableEqBool z false):Bool)=false:=by subst h;rfl
open Go
def sub:Code->List Nat->Code
 |c,[]=>c
 |.seq a _,0::l=>sub a l
 |.seq _ b,_::l=>sub b l
 |.cond _ a _,0::l=>sub a l
 |.cond _ _ b,_::l=>sub b l
 |.block _ b,_::l=>sub b l
 |.loop b,_::l=>sub b l
 |.scope b,_::l=>sub b l
 |.rangeFunc _ _ a _,0::l=>sub a l
 |.rangeFunc _ _ _ b,_::l=>sub b l
 |c,_::_=>c
def fk(fn:Func):Code:=fn.body.getD .skip
def cd:Env->Env->Prop
 |[],_=>True
 |(t,v)::l,Γ=>ej t Γ=some v/\cd l Γ
theorem cd.ok:∀{Γ2 Γ:Env},cd Γ2 Γ->∀t v,ej t Γ2=some v->ej t Γ=some v
 |[],Γ,_,t,v,h=>by simp[ej] at h
 |(u,x)::l,Γ,⟨aa,ad⟩,t,v,h=>by
  simp only[ej] at h
  rcases uu t u with⟨e,ae⟩|⟨e,ae⟩
  · rw[ae] at h;cases h;rw[e];exact aa
  · rw[ae] at h;exact cd.ok ad t v h
theorem Mod.sub{r:a2}{Γ Γ2:Env}(h:Mod r Γ)(hs:cd Γ2 Γ):Mod r Γ2:=λt v bc=>h t v (hs.ok t v bc)
section
variable {P:Program} {need:Nat} {rd:Option Nat} {call:aP}
def FO(bO:List Nat):lx (hp (bu×ah))->Option (hp (bu×ah))
 |.cY ⟨(e,⟨Γ,d,q,h⟩),cs,[]⟩=>some ⟨(e,⟨ny Γ bO,d,q,h⟩),cs,[]⟩
 |_=>none
theorem Uz{c:Code}{st:ah}{hs:List Hint}{e:bu}{b5:ah}{cs:List Prop}(bO:List Nat)(ab:FO bO (l5 P need rd call c st hs)=some ⟨(e,b5),cs,[]⟩)(ag:eE cs):cQ P need rd call c st e b5:=by
 unfold FO at ab
 split at ab
 · rename_i aA hH d1 ba aa kk UA
   cases ab
   intro r aj
   obtain⟨r1,aa,a5⟩:=qc c st hs _ UA ag r aj
   exact⟨r1,aa,a5.ny bO⟩
 · cases ab
theorem cQ.pre{c:Code}{st st1 b5:ah}{e:bu}(h:cQ P need rd call c st e b5)(hs:cd st.Γ st1.Γ)(ao:st1.d=st.d)(aJ:st1.q=st.q)(ak:st1.h=st.h):cQ P need rd call c st1 e b5:=by
 intro r aj
 obtain⟨r1,aa,a5⟩:=h r (aj.sub hs)
 exact⟨r1,by rw[ao,aJ,ak];exact aa,a5⟩
theorem cQ.post{c:Code}{st b5:ah}{Γ2:Env}{e:bu}(h:cQ P need rd call c st e b5)(hs:cd Γ2 b5.Γ):cQ P need rd call c st e {b5 with Γ:=Γ2}:=by
 intro r aj
 obtain⟨r1,aa,a5⟩:=h r aj
 exact⟨r1,aa,a5.sub hs⟩
def o_(P:Program)(need:Nat)(rd:Option Nat)(call:aP)(b:Code)(n:Nat)(st:ah)(e:bu)(b5:ah):Prop:=
 ∀r,Mod r st.Γ->∃r',pS (dJ P need rd call b) n r st.d st.q st.h=.ok e r' b5.d b5.q b5.h/\Mod r' b5.Γ
theorem o_.step{b:Code}{n:Nat}{st st1 b5:ah}{e:bu}(h:cQ P need rd call b st .nrm st1)(ad:o_ P need rd call b n st1 e b5):o_ P need rd call b (n+1) st e b5:=by
 intro r aj
 obtain⟨r1,aA,a5⟩:=h r aj
 obtain⟨r2,ax,bX⟩:=ad r1 a5
 exact⟨r2,by simp only[pS,aA,qQ,ax],bX⟩
theorem o_.exit{b:Code}{n:Nat}{st b5:ah}{e:bu}(h:cQ P need rd call b st e b5)(he:e≠ .nrm):o_ P need rd call b (n+1) st e b5:=by
 intro r aj
 obtain⟨r1,aA,a5⟩:=h r aj
 exact⟨r1,by simp only[pS,aA];exact tZ he,a5⟩
theorem FP{f:a2->List bZ->bL->J->jZ}:∀{n m:Nat},n<=m->∀{r d q h e r' bh bn an},pS f n r d q h=.ok e r' bh bn an->pS f m r d q h=.ok e r' bh bn an
 |0,_,_,_,_,_,_,_,_,_,_,_,h=>by cases h
 |n+1,0,hle,_,_,_,_,_,_,_,_,_,_=>by omega
 |n+1,m+1,hle,r,d,q,h,e,r',bh,bn,an,ab=>by
  simp only[pS] at ab⊢
  cases hf:f r d q h with
  |fail w=>rw[hf] at ab;cases ab
  |ok aA r1 d1 ba aa=>
   rw[hf] at ab
   cases aA<;>simp only[qQ] at ab⊢ <;>first|exact FP (by omega) ab|exact ab
theorem o_.run{b:Code}{n:Nat}{st b5:ah}{e:bu}(h:o_ P need rd call b n st e b5)(aN:n<=100000):cQ P need rd call (.loop b) st e b5:=by
 intro r aj
 obtain⟨r1,aA,a5⟩:=h r aj
 exact⟨r1,by simp only[dJ];exact FP aN aA,a5⟩
def ou:Nat->List I->Env
 |_,[]=>[]
 |i,v::l=>(i,v)::ou (i+1) l
theorem Lk(t:Nat)(v:I):∀(l:List I) (i:Nat),ej t (ou i l)=some v->i<=t/\t<i+l.length/\l[t-i]? =some v
 |[],i,h=>by simp[ou,ej] at h
 |x::l,i,h=>by
  simp only[ou,ej] at h
  rcases uu t i with⟨e,ae⟩|⟨e,ae⟩
  · rw[ae] at h;cases h;subst e;simp
  · rw[ae] at h
    obtain⟨aa,ad,av⟩:=Lk t v l (i+1) h
    refine⟨by omega,by simp;omega,?_⟩
    have:t-i=(t-(i+1))+1:=by omega
    rw[this];simpa using av
theorem Ce(args:List I):Mod (n5 0 args .leaf) (ou 0 args):=by
 intro t v h
 obtain⟨aa,ad,av⟩:=Lk t v args 0 h
 rw[ES,if_pos ⟨aa,ad⟩,av];rfl
def eN(P:Program)(need:Nat)(Γ:Env)(h:J)(x:ResultVar):Option I:=
 match x with
 |.tmp t=>match Nat.testBit need t with
  |true=>ej t Γ
  |false=>none
 |.cell t ty=>match Nat.testBit need t with
  |true=>match ej t Γ with
   |none=>none
   |some p=>match p,qM P ty,dx P ty with
    |.ptr b off,some true,some n=>(match loadCells h b off n with|some cs=>some (.agg cs)|none=>none)
    |.ptr b off,some false,_=>ar h b off
    |_,_,_=>none
  |false=>none
theorem UB{Γ:Env}{r:a2}(hm:Mod r Γ){h:J}{x:ResultVar}{v:I}(ab:eN P need Γ h x=some v):r6 P need r h x=some v:=by
 cases x with
 |tmp t=>
  simp only[eN,r6] at ab⊢
  split at ab
  · rename_i ae
    rw[ae];simp only[hm t v ab]
  · cases ab
 |cell t ty=>
  simp only[eN,r6] at ab⊢
  split at ab
  · rename_i ae
    rw[ae]
    simp only
    cases aw:ej t Γ with
    |none=>rw[aw] at ab;simp at ab
    |some p=>rw[aw] at ab;rw[hm t p aw];exact ab
  · cases ab
def sL(P:Program)(need:Nat)(fn:Func)(Γ:Env)(h:J):Option I:=
 match pU (eN P need Γ h) fn.results.toList with
 |some [v]=>some v
 |some vs=>some (.aO vs)
 |none=>none
theorem Ll{Γ:Env}{r:a2}(hm:Mod r Γ){h:J}:∀(l:List ResultVar) (vs:List I),pU (eN P need Γ h) l=some vs->pU (r6 P need r h) l=some vs
 |[],vs,ab=>ab
 |x::l,vs,ab=>by
  simp only[pU] at ab⊢
  cases aa:eN P need Γ h x with
  |none=>rw[aa] at ab;simp at ab
  |some v=>
   rw[aa] at ab
   cases ad:pU (eN P need Γ h) l with
   |none=>rw[ad] at ab;simp at ab
   |some ws=>
    rw[ad] at ab
    rw[UB hm aa,Ll hm l ws ad];exact ab
theorem FQ{Γ:Env}{r:a2}(hm:Mod r Γ){h:J}{fn:Func}{v:I}(ab:sL P need fn Γ h=some v):qR P need fn r h=some v:=by
 unfold sL at ab
 unfold qR
 cases aL:pU (eN P need Γ h) fn.results.toList with
 |none=>rw[aL] at ab;cases ab
 |some vs=>
  rw[aL] at ab
  rw[Ll hm _ _ aL];exact ab
variable {intr:Nat->List I->J->Option (I×J)}
theorem UC{f:Nat}{fn:Func}{c:Code}{n:Nat}{args:List I}{h:J}(hf:P.funcs[f]? =some fn)(ae:fn.body=some c)(aN:dR fn=need)(af:intr f args h=none)(hle:Nat.ble args.length fn.ntmps=true)
  {e:bu}{Γ:Env}{q:bL}{an:J}(e6:cQ P need none (fp P intr n) c ⟨ou 0 args,[],.none,h⟩ e ⟨Γ,[],q,an⟩)(he:e=.ret\/e=.nrm){v:I}(jx:sL P need fn Γ an=some v):
  fp P intr (n+1) (.fn f) args h=.ret v an:=by
 subst aN
 obtain⟨r1,aa,a5⟩:=e6 _ (Ce args)
 have aj:=FQ a5 jx
 simp only[fp,af,qS,hf,ae,nf,hle,aa]
 rcases he with rfl|rfl<;>simp only[pV,jJ,aj]
theorem UD{f:Nat}{fn:Func}{c:Code}{n:Nat}{args:List I}{h:J}(hf:P.funcs[f]? =some fn)(ae:fn.body=some c)(aN:dR fn=need)(af:intr f args h=none)(hle:Nat.ble args.length fn.ntmps=true)
  {v:I}{Γ:Env}{q:bL}{an:J}(e6:cQ P need none (fp P intr n) c ⟨ou 0 args,[],.none,h⟩ (.ca v) ⟨Γ,[],q,an⟩):
  fp P intr (n+1) (.fn f) args h=.ca v an:=by
 subst aN
 obtain⟨r1,aa,a5⟩:=e6 _ (Ce args)
 simp only[fp,af,qS,hf,ae,nf,hle,aa,pV,jJ]
abbrev aB(P:Program)(fn:Func)(rd:Option Nat)(call:aP)(path:List Nat)(st:ah)(e:bu)(b5:ah):Prop:=cQ P (dR fn) rd call (sub (fk fn) path) st e b5
abbrev UE(P:Program)(fn:Func)(rd:Option Nat)(call:aP)(path:List Nat)(st:ah)(hs:List Hint):lx (hp (bu×ah)):=l5 P (dR fn) rd call (sub (fk fn) path) st hs
theorem bx{fn:Func}{path:List Nat}{st:ah}{hs:List Hint}{e:bu}{b5:ah}{cs:List Prop}(bO:List Nat)(ab:FO bO (UE P fn rd call path st hs)=some ⟨(e,b5),cs,[]⟩)(ag:eE cs):aB P fn rd call path st e b5:=Uz bO ab ag
end
theorem Lm:∀(c:Code) (x:Nat) (l:List Nat),sub c (x::l)=sub (sub c [x]) l
 |.seq a b,0,l=>by simp[sub]
 |.seq a b,_+1,l=>by simp[sub]
 |.cond _ a b,0,l=>by simp[sub]
 |.cond _ a b,_+1,l=>by simp[sub]
 |.rangeFunc _ _ a b,0,l=>by simp[sub]
 |.rangeFunc _ _ a b,_+1,l=>by simp[sub]
 |.block _ b,x,l=>by simp[sub]
 |.loop b,x,l=>by simp[sub]
 |.scope b,x,l=>by simp[sub]
 |.skip,x,l=>by cases l<;>simp[sub]
 |.region _ _ _,x,l=>by cases l<;>simp[sub]
 |.exit _,x,l=>by cases l<;>simp[sub]
 |.ret,x,l=>by cases l<;>simp[sub]
 |.label _,x,l=>by cases l<;>simp[sub]
 |.goto _,x,l=>by cases l<;>simp[sub]
 |.refuse _,x,l=>by cases l<;>simp[sub]
theorem jR(c:Code):∀(p l:List Nat),sub c (p++l)=sub (sub c p) l
 |[],l=>by simp[sub]
 |x::p,l=>by rw[List.cons_append,Lm,jR (sub c [x]) p l,<-Lm]
def uy:Code->Bool
 |.seq _ _=>true
 |_=>false
def wx(id:Nat):Code->Bool
 |.block i _=>Nat.beq i id
 |_=>false
def zg:Code->Bool
 |.loop _=>true
 |_=>false
theorem Cf{c:Code}(h:uy c=true):c=.seq (sub c [0]) (sub c [1]):=by
 cases c<;>simp[uy,sub] at h⊢
theorem Cg{c:Code}{id:Nat}(h:wx id c=true):c=.block id (sub c [0]):=by
 cases c<;>simp only[wx] at h<;>(try (cases h;done))
 obtain rfl:=Nat.eq_of_beq_eq_true h
 simp[sub]
theorem Ln{c:Code}(h:zg c=true):c=.loop (sub c [0]):=by
 cases c<;>simp[zg,sub] at h⊢
section
variable {P:Program} {rd:Option Nat} {call:aP} {fn:Func}
theorem cQ.seq{need:Nat}{a b:Code}{st st1 kX:ah}{e:bu}(aa:cQ P need rd call a st .nrm st1)(ad:cQ P need rd call b st1 e kX):cQ P need rd call (.seq a b) st e kX:=by
 intro r aj
 obtain⟨r1,aA,a5⟩:=aa r aj
 obtain⟨r2,ax,bX⟩:=ad r1 a5
 exact⟨r2,by simp only[dJ,aA,qQ,ax],bX⟩
theorem cQ.gy{need:Nat}{a b:Code}{st st1:ah}{e:bu}(aa:cQ P need rd call a st e st1)(he:e≠ .nrm):cQ P need rd call (.seq a b) st e st1:=by
 intro r aj
 obtain⟨r1,aA,a5⟩:=aa r aj
 exact⟨r1,by simp only[dJ,aA];exact tZ he,a5⟩
theorem cQ.block{need:Nat}{id:Nat}{b:Code}{st st1:ah}(aa:cQ P need rd call b st (.exit id) st1):cQ P need rd call (.block id b) st .nrm st1:=by
 intro r aj
 obtain⟨r1,aA,a5⟩:=aa r aj
 exact⟨r1,by simp only[dJ,aA,if_true],a5⟩
theorem cQ.rq{need:Nat}{id:Nat}{b:Code}{st st1:ah}{e:bu}(aa:cQ P need rd call b st e st1)(he:e≠ .exit id):cQ P need rd call (.block id b) st e st1:=by
 intro r aj
 obtain⟨r1,aA,a5⟩:=aa r aj
 refine⟨r1,?_,a5⟩
 simp only[dJ,aA]
 cases e<;>first|rfl|(rename_i i;exact if_neg λh=>he (by rw[h]))
theorem aB.seq{p:List Nat}{st st1 kX:ah}{e:bu}(hs:uy (sub (fk fn) p)=true)(aa:aB P fn rd call (p++[0]) st .nrm st1)(ad:aB P fn rd call (p++[1]) st1 e kX):aB P fn rd call p st e kX:=by
 unfold aB at*
 rw[Cf hs]
 rw[jR] at aa ad
 exact aa.seq ad
theorem aB.gy{p:List Nat}{st st1:ah}{e:bu}(hs:uy (sub (fk fn) p)=true)(aa:aB P fn rd call (p++[0]) st e st1)(he:e≠ .nrm):aB P fn rd call p st e st1:=by
 unfold aB at*
 rw[Cf hs]
 rw[jR] at aa
 exact aa.gy he
theorem aB.block{p:List Nat}{id:Nat}{st st1:ah}(hs:wx id (sub (fk fn) p)=true)(aa:aB P fn rd call (p++[0]) st (.exit id) st1):aB P fn rd call p st .nrm st1:=by
 unfold aB at*
 rw[Cg hs]
 rw[jR] at aa
 exact aa.block
theorem aB.rq{p:List Nat}{id:Nat}{st st1:ah}{e:bu}(hs:wx id (sub (fk fn) p)=true)(aa:aB P fn rd call (p++[0]) st e st1)(he:e≠ .exit id):aB P fn rd call p st e st1:=by
 unfold aB at*
 rw[Cg hs]
 rw[jR] at aa
 exact aa.rq he
def eL(P:Program)(fn:Func)(rd:Option Nat)(call:aP)(p:List Nat)(n:Nat)(st:ah)(e:bu)(b5:ah):Prop:=o_ P (dR fn) rd call (sub (fk fn) (p++[0])) n st e b5
theorem eL.step{p:List Nat}{n:Nat}{st st1 b5:ah}{e:bu}(h:aB P fn rd call (p++[0]) st .nrm st1)(ad:eL P fn rd call p n st1 e b5):eL P fn rd call p (n+1) st e b5:=o_.step h ad
theorem eL.exit{p:List Nat}{n:Nat}{st b5:ah}{e:bu}(h:aB P fn rd call (p++[0]) st e b5)(he:e≠ .nrm):eL P fn rd call p (n+1) st e b5:=o_.exit h he
theorem eL.run{p:List Nat}{n:Nat}{st b5:ah}{e:bu}(hs:zg (sub (fk fn) p)=true)(h:eL P fn rd call p n st e b5)(aN:n<=100000):aB P fn rd call p st e b5:=by
 unfold aB
 rw[Ln hs]
 unfold eL at h
 rw[jR] at h
 exact o_.run h aN
theorem eA{intr:Nat->List I->J->Option (I×J)}{f:Nat}{n:Nat}{args:List I}{h:J}(hf:P.funcs[f]? =some fn)(ae:fn.body.isSome=true)(af:intr f args h=none)(hle:Nat.ble args.length fn.ntmps=true)
  {e:bu}{Γ:Env}{q:bL}{an:J}(e6:aB P fn none (fp P intr n) [] ⟨ou 0 args,[],.none,h⟩ e ⟨Γ,[],q,an⟩)(he:e=.ret\/e=.nrm){v:I}(jx:sL P (dR fn) fn Γ an=some v):
  fp P intr (n+1) (.fn f) args h=.ret v an:=by
 obtain⟨c,ag⟩:=Option.isSome_iff_exists.1 ae
 have rr:fk fn=c:=by simp[fk,ag]
 unfold aB at e6
 rw[rr] at e6
 simp only[sub] at e6
 exact UC hf ag rfl af hle e6 he jx
theorem UF{intr:Nat->List I->J->Option (I×J)}{f:Nat}{n:Nat}{args:List I}{h:J}(hf:P.funcs[f]? =some fn)(ae:fn.body.isSome=true)(af:intr f args h=none)(hle:Nat.ble args.length fn.ntmps=true)
  {v:I}{Γ:Env}{q:bL}{an:J}(e6:aB P fn none (fp P intr n) [] ⟨ou 0 args,[],.none,h⟩ (.ca v) ⟨Γ,[],q,an⟩):fp P intr (n+1) (.fn f) args h=.ca v an:=by
 obtain⟨c,ag⟩:=Option.isSome_iff_exists.1 ae
 have rr:fk fn=c:=by simp[fk,ag]
 unfold aB at e6
 rw[rr] at e6
 simp only[sub] at e6
 exact UD hf ag rfl af hle e6
theorem j7{i m:Nat}(af:i<m)(hm:m<=1000000000000):arith BinOp.add IntKind.i64 (Int.ofNat i) (Int.ofNat 1)=some (I.int IntKind.i64 (Int.ofNat (i+1))):=by
 have h:=sg (i+1) (by omega)
 have e:Int.ofNat i+Int.ofNat 1=((i+1:Nat):Int):=rfl
 simp only[arith,e,h];rfl
theorem dT{a b:Nat}(h:a<b):bP (Int.ofNat a) (Int.ofNat b)=true:=by simp[bP];omega
theorem e1{a b:Nat}(h:¬a<b):bP (Int.ofNat a) (Int.ofNat b)=false:=by simp[bP];omega
theorem ov{s:List UInt8}{i:Nat}(h:i<s.length):g7 i s=some (.int .u8 (Int.ofNat (s[i]).toNat)):=by
 unfold g7
 rw[qV,List.getElem?_eq_getElem h]
end
structure Ext(B:Nat)(h an:J):Prop where
 n:h.n<=an.n
 get:∀b,b<B->an.get b=h.get b
theorem Ext.refl(B:Nat)(h:J):Ext B h h:=⟨Nat.le_refl _,λ_ _=>rfl⟩
theorem Ext.trans{B mN:Nat}{h aa ad:J}(cC:B<=mN)(e:Ext B h aa)(cI:Ext mN aa ad):Ext B h ad:=⟨Nat.le_trans e.n cI.n,λb ae=>(cI.get b (Nat.lt_of_lt_of_le ae cC)).trans (e.get b ae)⟩
theorem Ext.push{B:Nat}{h:J}(cC:B<=h.n)(o:dr):Ext B h (h.push o):=⟨by simp,λb ae=>by rw[J.gD,if_neg (by omega)]⟩
theorem Ext.set{B:Nat}{h:J}{b:Nat}(ae:B<=b)(o:Option dr):Ext B h (h.set b o):=⟨by simp,λc ag=>by rw[J.c7,if_neg (by omega)]⟩
theorem Ext.room(B:Nat)(h:J)(k:Nat):Ext B h (h.room k):=⟨by simp,λ_ _=>rfl⟩
theorem zh:∀(l m:List I),takeN l.length (l++m)=some l
 |[],m=>rfl
 |a::l,m=>by simp[takeN,zh l m]
theorem Ch{h:J}{b e aI af:Nat}{k:gS}{xs rest:List I}(al:h.get b=some (.cells (xs++rest) e k aI af)):loadCells h b 0 xs.length=some xs:=by
 simp[loadCells,al,jH,zh]
section
variable {P:Program}
theorem uz{h:J}{e bytes size need:Nat}{z:I}{cs:List I}{fz:Nat}(aa:kA need bytes=true)(ad:Nat.beq z.cells.length size=true)(av:cs.all I.cO=true):kB h e bytes size need z cs fz=some (.slice h.n 0 need (.aR size),h.push (.cells cs e .aR 0 fz)):=by
 unfold kB
 rw[aa,ad,av];rfl
theorem Lo{h:J}{t:TypeId}{s:List UInt8}{af:Nat}{dh:IntKind}(hu:P.underlying t=some .string)(ad:af<=s.length):
  c1 P h t (.str s) none (some (.int dh (Int.ofNat af))) none=some (.str (s.take af)):=by
 have br:Nat.ble s.length s.length=true:=by simp
 have a3:Nat.ble af s.length=true:=by simpa using ad
 have dm:Nat.ble 0 af=true:=by simp
 simp only[c1,hu,bounds,g4,eI,br,a3,dm,ng,List.drop_zero,Nat.sub_zero]
theorem UG{h:J}{t:TypeId}{s:List UInt8}{aI:Nat}{k:IntKind}(hu:P.underlying t=some .string)(ad:aI<=s.length):
  c1 P h t (.str s) (some (.int k (Int.ofNat aI))) none none=some (.str (s.drop aI)):=by
 have br:Nat.ble s.length s.length=true:=by simp
 have a3:Nat.ble aI s.length=true:=by simpa using ad
 simp only[c1,hu,bounds,g4,eI,br,a3,ng]
 rw[List.take_of_length_le (by simp)]
theorem hX{x y:List UInt8}(h:x.length+y.length<=1000000000000):gT .add x y=some (.str (x++y)):=by
 have:¬(((x.length+y.length:Nat):Int)>IntKind.i64.max):=by
  have e:IntKind.i64.max=9223372036854775807:=rfl
  rw[e];omega
 simp only[gT,if_neg this]
end
variable {P:Program} {call:aP}
def UH(l:Nat)(e:bu)(need:Nat)(r:a2)(ps:List Nat)(as cy:Code)(eU:Nat)(h:J):a9:=match e with
 |.nrm=>.ret (.bool true) (h.set l (some (.loop .ready none need r ps as cy eU)))
 |.ret=>.ret (.bool false) (h.set l (some (.loop .done (some .ret) need r ps as cy eU)))
 |.exit id=>.ret (.bool false) (h.set l (some (.loop .done (some (.exit id)) need r ps as cy eU)))
 |.ca v=>.ca v h
 |.goto _=>.fail "goto in a round"
theorem Lp{l need t eU:Nat}{Γ hH Γ2:Env}{as cy:Code}{v:I}{h ad:J}{q a1:bL}{e:bu}{r:a2}
  (al:h.get l=some (.loop .ready none need r [t] as cy eU))(hm:Mod r Γ)
  (aL:cQ P need (some l) call as ⟨put t v Γ,[],.none,h⟩ .nrm ⟨hH,[],q,h⟩)
  (ae:cQ P need (some l) call cy ⟨hH,[],.none,h.set l (some (.loop .busy none need r [t] as cy eU))⟩ e ⟨Γ2,[],a1,ad⟩)
  (aq:ad.get l=some (.loop .busy none need r [t] as cy eU)):
  tE P call l [v] h=UH l e need r [t] as cy eU ad:=by
 obtain⟨r1,aA,a5⟩:=aL _ (hm.put t v)
 obtain⟨r2,ax,bX⟩:=ae _ a5
 simp only at aA ax
 simp only[tE,al,vJ,aA,D6,ax]
 simp only[x7,aq]
 cases e<;>rfl
theorem ow{h:J}{b t:Nat}{x:I}(al:h.get b=some (.cells [x] t .own 0 0)):ar h b 0=some x:=by
 simp only[ar,al];rfl
theorem Ci{h:J}{b t:Nat}{x y:I}(aU:y.cO=true)(al:h.get b=some (.cells [x] t .own 0 0)):bt.storeCells h b 0 [y]=some (h.set b (some (.cells [y] t .own 0 0))):=by
 have hw:lj .own 0 0 0 [y].length=true:=rfl
 simp only[bt.storeCells,al,hw,fS,aU]
end bt
namespace bt
open Go
def W(P:Program)(need:Nat)(rd:Option Nat)(call:aP)(c:Code)(Q:bu->a2->List bZ->bL->J->Prop)(r:a2)(d:List bZ)(q:bL)(h:J):Prop:=
 ∃e r' bh bn an,dJ P need rd call c r d q h=.ok e r' bh bn an/\Q e r' bh bn an
section
variable {P:Program} {need:Nat} {rd:Option Nat} {call:aP} {fn:Func}
theorem W.of{c:Code}{Q:bu->a2->List bZ->bL->J->Prop}{r:a2}{st b5:ah}{e:bu}(aj:cQ P need rd call c st e b5)(hm:Mod r st.Γ)(k:∀r',Mod r' b5.Γ->Q e r' b5.d b5.q b5.h):W P need rd call c Q r st.d st.q st.h:=by
 obtain⟨r',aa,ad⟩:=aj r hm
 exact⟨e,r',_,_,_,aa,k r' ad⟩
theorem W.seq{a b:Code}{Q:bu->a2->List bZ->bL->J->Prop}{r:a2}{d:List bZ}{q:bL}{h:J}
  (hw:W P need rd call a (λe r d q h=>(e=.nrm/\W P need rd call b Q r d q h)\/(e≠ .nrm/\Q e r d q h)) r d q h):W P need rd call (.seq a b) Q r d q h:=by
 obtain⟨e,r1,d1,ba,aa,ad,av⟩:=hw
 rcases av with⟨rfl,ax,r2,d2,a1,aG,bI,cq⟩|⟨cX,aJ⟩
 · exact⟨ax,r2,d2,a1,aG,by simp only[dJ,ad,qQ,bI],cq⟩
 · exact⟨e,r1,d1,ba,aa,by simp only[dJ,ad];exact tZ cX,aJ⟩
theorem W.block{id:Nat}{b:Code}{Q:bu->a2->List bZ->bL->J->Prop}{r:a2}{d:List bZ}{q:bL}{h:J}
  (hw:W P need rd call b (λe r d q h=>(e=.exit id/\Q .nrm r d q h)\/(e≠ .exit id/\Q e r d q h)) r d q h):W P need rd call (.block id b) Q r d q h:=by
 obtain⟨e,r1,d1,ba,aa,ad,av⟩:=hw
 rcases av with⟨rfl,aJ⟩|⟨cX,aJ⟩
 · exact⟨.nrm,r1,d1,ba,aa,by simp only[dJ,ad,if_true],aJ⟩
 · refine⟨e,r1,d1,ba,aa,?_,aJ⟩
   simp only[dJ,ad]
   cases e<;>first|rfl|(rename_i i;exact if_neg λh=>cX (by rw[h]))
abbrev WF(P:Program)(fn:Func)(rd:Option Nat)(call:aP)(path:List Nat):=W P (dR fn) rd call (sub (fk fn) path)
theorem WF.seq{p:List Nat}{Q:bu->a2->List bZ->bL->J->Prop}{r:a2}{d:List bZ}{q:bL}{h:J}(hs:uy (sub (fk fn) p)=true)
  (hw:WF P fn rd call (p++[0]) (λe r d q h=>(e=.nrm/\WF P fn rd call (p++[1]) Q r d q h)\/(e≠ .nrm/\Q e r d q h)) r d q h):WF P fn rd call p Q r d q h:=by
 unfold WF at*
 rw[Cf hs]
 rw[jR,jR] at hw
 exact hw.seq
theorem WF.block{p:List Nat}{id:Nat}{Q:bu->a2->List bZ->bL->J->Prop}{r:a2}{d:List bZ}{q:bL}{h:J}(hs:wx id (sub (fk fn) p)=true)
  (hw:WF P fn rd call (p++[0]) (λe r d q h=>(e=.exit id/\Q .nrm r d q h)\/(e≠ .exit id/\Q e r d q h)) r d q h):WF P fn rd call p Q r d q h:=by
 unfold WF at*
 rw[Cg hs]
 rw[jR] at hw
 exact hw.block
def FR(f:Operand)(ps:List Nat):Code->Bool
 |.rangeFunc (.tmp g) dW _ _=>(match f with|.tmp t=>Nat.beq g t|_=>false)&&dW.toList==ps
 |_=>false
theorem UI{c:Code}{t:Nat}{ps:List Nat}(h:FR (.tmp t) ps c=true):∃dW:Array Nat,dW.toList=ps/\c=.rangeFunc (.tmp t) dW (sub c [0]) (sub c [1]):=by
 unfold FR at h
 split at h
 · rename_i g dW a b
   simp only[Bool.and_eq_true] at h
   obtain⟨aa,ad⟩:=h
   obtain rfl:=Nat.eq_of_beq_eq_true aa
   exact⟨dW,eq_of_beq ad,by simp[sub]⟩
 · cases h
theorem W.range{f:Operand}{ps:Array Nat}{as cy:Code}{Γ:Env}{Q:bu->a2->List bZ->bL->J->Prop}{r:a2}{d:List bZ}{q:bL}{h:J}{g:Nat}{aV:List I}
  (hf:oo 0 [] Γ (cR P need [] f)=some (.fn g [] aV))(hm:Mod r Γ)
  (ag:∃e an,n4 (h.n+1) r (.collected h.n::d) q (call (.fn g) (.dt (h.n+1)::aV) ((h.push (.defrd (some []))).push (.loop .ready none need r ps.toList as cy h.n)))=.ok e r (.collected h.n::d) q an/\Q e r (.collected h.n::d) q an):
  W P need none call (.rangeFunc f ps as cy) Q r d q h:=by
 obtain⟨e,an,aF,a6⟩:=ag
 refine⟨e,r,_,q,an,?_,a6⟩
 have al:=uv hm hf
 rw[<-aF]
 simp only[dJ,x5,al,tC,oR]
 rfl
theorem WF.range{p:List Nat}{t:Nat}{ps:List Nat}{Γ:Env}{Q:bu->a2->List bZ->bL->J->Prop}{r:a2}{d:List bZ}{q:bL}{h:J}{g:Nat}{aV:List I}(hs:FR (.tmp t) ps (sub (fk fn) p)=true)
  (aN:Nat.testBit (dR fn) t=true)(hf:ej t Γ=some (.fn g [] aV))(hm:Mod r Γ)
  (ag:∃e an,n4 (h.n+1) r (.collected h.n::d) q (call (.fn g) (.dt (h.n+1)::aV) ((h.push (.defrd (some []))).push (.loop .ready none (dR fn) r ps (sub (fk fn) (p++[0])) (sub (fk fn) (p++[1])) h.n)))=.ok e r (.collected h.n::d) q an/\Q e r (.collected h.n::d) q an):
  WF P fn none call p Q r d q h:=by
 obtain⟨dW,aJ,he⟩:=UI hs
 unfold WF
 rw[jR,jR] at ag
 rw[he]
 subst aJ
 refine W.range (Γ:=Γ) ?_ hm ag
 have:cR P (dR fn) [] (.tmp t)=.reg (hh t):=by
  unfold cR
  simp only[iy,aN]
 rw[this]
 show ej (hh t).num Γ=_
 rw[A3];exact hf
theorem UJ{intr:Nat->List I->J->Option (I×J)}{f:Nat}{n:Nat}{args:List I}{h:J}{X:a9}(hf:P.funcs[f]? =some fn)(ae:fn.body.isSome=true)(af:intr f args h=none)(hle:Nat.ble args.length fn.ntmps=true)
  (hw:WF P fn none (fp P intr n) [] (λe r d q an=>pV P (fp P intr n) fn (.ok e r d q an)=X) (n5 0 args .leaf) [] .none h):fp P intr (n+1) (.fn f) args h=X:=by
 obtain⟨c,ag⟩:=Option.isSome_iff_exists.1 ae
 have rr:fk fn=c:=by simp[fk,ag]
 obtain⟨e,r,d,q,an,aa,ad⟩:=hw
 rw[rr] at aa
 simp only[sub] at aa
 simp only[fp,af,qS,hf,ag,nf,hle,aa,ad]
end
theorem uA:∀l:List UInt8,(dp l).length=l.length
 |[]=>rfl
 |a::l=>by simp[dp,uA l]
theorem Cj:∀l m:List UInt8,dp (l++m)=dp l++dp m
 |[],m=>rfl
 |a::l,m=>by simp[dp,Cj l m]
theorem Ck:∀l:List UInt8,(dp l).all I.cO=true
 |[]=>rfl
 |a::l=>by rw[dp,List.all_cons,Ck l];rfl
theorem FT:∀l:List UInt8,n2 (dp l)=some l
 |[]=>rfl
 |a::l=>by
  have aa:Nat.blt a.toNat 256=true:=by have:=UInt8.toNat_lt a;simp[Nat.blt];omega
  simp only[dp,n2,FT l,aa,UInt8.ofNat_toNat]
theorem FU:∀(xs ys:List I),xs.all I.cO=true->xs.length<=ys.length->fS 0 xs ys=some (xs++ys.drop xs.length)
 |[],ys,_,_=>by cases ys<;>simp[fS]
 |x::xs,[],_,h=>by simp at h
 |x::xs,y::ys,ab,h=>by
  simp only[List.all_cons,Bool.and_eq_true] at ab
  have bb:=FU xs ys ab.2 (by simpa using h)
  simp[fS,ab.1,bb]
theorem zi:∀(l xs ys:List I),xs.all I.cO=true->xs.length<=ys.length->fS l.length xs (l++ys)=some (l++(xs++ys.drop xs.length))
 |[],xs,ys,ab,h=>by simpa using FU xs ys ab h
 |a::l,[],ys,ab,h=>by simp[fS]
 |a::l,x::xs,ys,ab,h=>by
  have bb:=zi l (x::xs) ys ab h
  simp only[List.length_cons,List.cons_append,fS] at bb⊢
  rw[bb]
theorem UK{i j:Nat}(h:i+j<9223372036854775808):arith BinOp.add IntKind.i64 (Int.ofNat i) (Int.ofNat j)=some (I.int IntKind.i64 (Int.ofNat (i+j))):=by
 have h:=sg (i+j) h
 have e:Int.ofNat i+Int.ofNat j=((i+j:Nat):Int):=rfl
 simp only[arith,e,h];rfl
theorem wy{i j:Nat}(aK:j<=i)(h:i<9223372036854775808):arith BinOp.sub IntKind.i64 (Int.ofNat i) (Int.ofNat j)=some (I.int IntKind.i64 (Int.ofNat (i-j))):=by
 have h:=sg (i-j) (by omega)
 have e:Int.ofNat i-Int.ofNat j=((i-j:Nat):Int):=by
  have aA:Int.ofNat i=(i:Int):=rfl
  have ax:Int.ofNat j=(j:Int):=rfl
  rw[aA,ax];omega
 simp only[arith,e,h];rfl
theorem UL{i j:Nat}(h:i*j<9223372036854775808):arith BinOp.mul IntKind.i64 (Int.ofNat i) (Int.ofNat j)=some (I.int IntKind.i64 (Int.ofNat (i*j))):=by
 have h:=sg (i*j) h
 have e:Int.ofNat i*Int.ofNat j=((i*j:Nat):Int):=rfl
 simp only[arith,e,h];rfl
theorem mO{a b:Nat}(h:a<=b):eQ (Int.ofNat a) (Int.ofNat b)=true:=by simp[eQ];omega
theorem ox{a b:Nat}(h:¬a<=b):eQ (Int.ofNat a) (Int.ofNat b)=false:=by simp[eQ];omega
def qd(B e:Nat)(h:J)(v:I)(w:List UInt8):Prop:=
 (v=.aS/\w=[])\/∃c rest,v=.slice c 0 w.length (.aR 1)/\h.get c=some (.cells (dp w++rest) e .aR 0 0)/\B<=c/\c<h.n
theorem qd.ext{B e:Nat}{h an:J}{v:I}{w:List UInt8}(ae:qd B e h v w)(aN:h.n<=an.n)(al:∀c,B<=c->c<h.n->an.get c=h.get c):qd B e an v w:=by
 rcases ae with aa|⟨c,rest,aa,ad,av,aG⟩
 · exact .inl aa
 · exact .inr ⟨c,rest,aa,(al c av aG).trans ad,av,by omega⟩
section
variable {P:Program}
theorem Lq{B:Nat}{h:J}{v:I}{w s:List UInt8}{sT e:TypeId}{xT:Option TypeId}{i:TypeInfo}{z:I}(cC:B<=h.n)(hu:P.underlying sT=some (.slice e))(fj:pH P xT=true)(af:P.info? e=some i)(bA:i.size=1)(aW:ev P e=some z)(hS:z.cells.length=1)
  (p3:kA (w.length+s.length) i.bytes=true)(aj:qd B e h v w):
  ∃v' an,db P h sT xT v (.str s)=some (v',an)/\qd B e an v' (w++s)/\Ext B h an:=by
 have hI:fg h 1 (.str s)=some (s.length,dp s):=rfl
 have Lr:Nat.beq z.cells.length 1=true:=by rw[hS];rfl
 rcases aj with⟨rfl,rfl⟩|⟨c,rest,rfl,al,ru,wu⟩
 · cases s with
   |nil=>exact⟨.aS,h,by simp only[db,hu,fj,af,aW,bA];rfl,.inl ⟨rfl,rfl⟩,Ext.refl _ _⟩
   |cons a s=>
    have UM:kA (a::s).length i.bytes=true:=by simpa using p3
    have ee:=uz (h:=h) (e:=e) (fz:=0) UM Lr (Ck (a::s))
    refine⟨.slice h.n 0 (a::s).length (.aR 1),h.push (.cells (dp (a::s)) e .aR 0 0),?_,.inr ⟨h.n,[],by simp,by rw[J.gD,if_pos rfl];simp,cC,by simp⟩,Ext.push cC _⟩
    rw[<-ee]
    simp only[db,hu,fj,af,aW,bA,hI]
    rfl
 · cases s with
   |nil=>exact⟨.slice c 0 w.length (.aR 1),h,by simp only[db,hu,fj,af,aW,bA];rfl,.inr ⟨c,rest,by simp,by simpa using al,ru,wu⟩,Ext.refl _ _⟩
   |cons a s=>
    have Ls:(Nat.beq 1 1&&Nat.blt 0 1)=true:=rfl
    by_cases sn:(a::s).length<=rest.length
    · have l6:Nat.ble (0+(w.length+(a::s).length)*1) (dp w++rest).length=true:=by
        simp only[Nat.ble_eq,List.length_append,uA];omega
      have aQ:=zi (dp w) (dp (a::s)) rest (Ck _) (by rw[uA];exact sn)
      have hw:lj .aR 0 0 (0+w.length*1) (dp (a::s)).length=true:=by unfold lj;simp
      have yR:fS (0+w.length*1) (dp (a::s)) (dp w++rest)=some (dp w++(dp (a::s)++rest.drop (dp (a::s)).length)):=by
       rw[<-aQ,uA];simp
      refine⟨.slice c 0 (w.length+(a::s).length) (.aR 1),h.set c (some (.cells (dp w++(dp (a::s)++rest.drop (dp (a::s)).length)) e .aR 0 0)),?_,.inr ⟨c,rest.drop (dp (a::s)).length,by simp,by rw[J.c7,if_pos rfl,Cj];simp,ru,by simpa using wu⟩,Ext.set ru _⟩
      simp only[db,hu,fj,af,aW,bA,hI]
      simp only[Ls,List.length_cons,al]
      simp only[List.length_cons] at l6 yR hw
      simp only[l6,bt.storeCells,al,hw,yR]
    · have l6:Nat.ble (0+(w.length+(a::s).length)*1) (dp w++rest).length=false:=by
        cases ae:Nat.ble (0+(w.length+(a::s).length)*1) (dp w++rest).length with
        |false=>rfl
        |true=>simp only[Nat.ble_eq,List.length_append,uA] at ae;omega
      have aw:loadCells h c 0 (w.length*1)=some (dp w):=by
       have:=Ch (xs:=dp w) al
       rw[uA] at this;simpa using this
      have eB:(dp w++dp (a::s)).all I.cO=true:=by rw[<-Cj];exact Ck _
      have zj:(Nat.ble 0 (0+w.length*1)&&Nat.beq e e)=true:=by simp
      have ee:=uz (h:=h.set c none) (e:=e) (fz:=0-0) p3 Lr eB
      refine⟨.slice (h.set c none).n 0 (w.length+(a::s).length) (.aR 1),(h.set c none).push (.cells (dp w++dp (a::s)) e .aR 0 0),?_,.inr ⟨(h.set c none).n,[],by simp,by rw[J.gD,if_pos rfl,Cj];simp,by simp;omega,by simp⟩,
       (Ext.set ru none).trans (Nat.le_refl _) (Ext.push (by simp;omega) _)⟩
      simp only[List.length_cons] at l6 ee
      simp only[db,hu,fj,af,aW,bA,hI]
      simp only[Ls,List.length_cons,al]
      simp only[l6,aw,zj,ee]
theorem Lt{h:J}{pT u:TypeId}{c e:Nat}{w:List UInt8}{rest:List I}(hw:w≠[])(aw:w.length<=100000000000)(hu:P.underlying pT=some (.pointer u))(he:P.underlyingId e=P.underlyingId u)(hs:dx P e=some 1)(al:h.get c=some (.cells (dp w++rest) e .aR 0 0)):
  pJ P h pT (.ptr c 0) (.int .i64 (Int.ofNat w.length))=some (.str w,h.set c (some (.cells (dp w++rest) e .fz 0 0))):=by
 have aN:w.length≠0:=by cases w<;>simp at hw⊢
 have bc:takeN w.length (jH 0 (dp w++rest))=some (dp w):=by
  have:=zh (dp w) rest
  rw[uA] at this;exact this
 have hle:Nat.ble w.length 281474976710656=true:=by simp;omega
 simp only[pJ,eI,if_neg aN,hu,al,he,hs,hle,bc,FT]
 simp
end
section
variable {D:Type}
variable {enc:D->List I} {w:Nat}
theorem Lu:∀(l m:List I) (n:Nat),l.length=n->takeN n (l++m)=some l
 |l,m,n,h=>by subst h;exact zh l m
end
theorem Lv(n:Nat)(h:n<18446744073709551616):IntKind.wrap .u64 (n:Int)=(n:Int):=by
 have e:((n:Int) %18446744073709551616)=n:=by omega
 have ax:(2:Int)^64=18446744073709551616:=by rfl
 simp only[IntKind.wrap,IntKind.bits,IntKind.signed,ax,e,Bool.false_and,if_neg Bool.false_ne_true]
theorem wrap_u8(n:Nat):IntKind.wrap .u8 (n:Int)=((n %256:Nat):Int):=by
 have ax:(2:Int)^8=256:=by rfl
 simp only[IntKind.wrap,IntKind.bits,IntKind.signed,ax,Bool.false_and,if_neg Bool.false_ne_true]
 omega
theorem UN{i j:Nat}(h:i+j<18446744073709551616):arith BinOp.add IntKind.u64 (Int.ofNat i) (Int.ofNat j)=some (I.int IntKind.u64 (Int.ofNat (i+j))):=by
 have h:=Lv (i+j) h
 have e:Int.ofNat i+Int.ofNat j=((i+j:Nat):Int):=rfl
 simp only[arith,e,h];rfl
theorem UO{i j:Nat}(aK:j<=i)(h:i<18446744073709551616):arith BinOp.sub IntKind.u64 (Int.ofNat i) (Int.ofNat j)=some (I.int IntKind.u64 (Int.ofNat (i-j))):=by
 have h:=Lv (i-j) (by omega)
 have e:Int.ofNat i-Int.ofNat j=((i-j:Nat):Int):=by
  have aA:Int.ofNat i=(i:Int):=rfl
  have ax:Int.ofNat j=(j:Int):=rfl
  rw[aA,ax];omega
 simp only[arith,e,h];rfl
theorem FV(k:IntKind){i j:Nat}(aK:0<j):arith BinOp.rem k (Int.ofNat i) (Int.ofNat j)=some (I.int k (Int.ofNat (i %j))):=by
 have e:(Int.ofNat i).tmod (Int.ofNat j)=((i %j:Nat):Int):=rfl
 have cX:¬(Int.ofNat j=0):=by
  have aA:Int.ofNat j=(j:Int):=rfl
  rw[aA];omega
 simp only[arith,if_neg cX,e];rfl
section
variable {P:Program}
theorem Lw{a b:TypeId}{ka k dh:IntKind}{n:Int}{h:J}(aL:P.underlying a=some (.int ka))(ae:P.underlying b=some (.int dh)){m:Int}(hm:dh.wrap n=m):iZ P a b (.int k n) h=.val (.int dh m) h:=by
 simp only[iZ,aL,ae,hm]
end
theorem nA{a b:Nat}(h:a=b):a8 (Int.ofNat a) (Int.ofNat b)=true:=by subst h;simp[a8]
theorem jS{a b:Nat}(h:¬a=b):a8 (Int.ofNat a) (Int.ofNat b)=false:=by
 cases ab:a8 (Int.ofNat a) (Int.ofNat b) with
 |false=>rfl
 |true=>simp[a8] at ab;omega
theorem Cl(m l:Nat):lj .aR 0 0 m l=true:=by unfold lj;simp
structure lz(p B:Nat)(h an:J):Prop where
 n:h.n<=an.n
 get:∀b,b<B->b≠p->an.get b=h.get b
theorem Ext.UP{B:Nat}{h an:J}(e:Ext B h an)(p:Nat):lz p B h an:=⟨e.n,λb ae _=>e.get b ae⟩
theorem lz.refl(p B:Nat)(h:J):lz p B h h:=⟨Nat.le_refl _,λ_ _ _=>rfl⟩
theorem lz.trans{p B mN:Nat}{h aa ad:J}(cC:B<=mN)(e:lz p B h aa)(cI:lz p mN aa ad):lz p B h ad:=⟨Nat.le_trans e.n cI.n,λb ae aQ=>(cI.get b (Nat.lt_of_lt_of_le ae cC) aQ).trans (e.get b ae aQ)⟩
theorem lz.afO{p B:Nat}{h an:J}(e:lz p B h an)(aQ:B<=p):Ext B h an:=⟨e.n,λb ae=>e.get b ae (by omega)⟩
theorem Ext.le{B mN:Nat}{h an:J}(e:Ext mN h an)(cC:B<=mN):Ext B h an:=⟨e.n,λb ae=>e.get b (by omega)⟩
theorem fl{h:J}{o:dr}{b:Nat}(ae:b=h.n):(h.push o).get b=some o:=by subst ae;rw[J.gD,if_pos rfl]
theorem lA{h:J}{o:dr}{b:Nat}{x:Option dr}(ae:b<h.n)(ab:h.get b=x):(h.push o).get b=x:=by rw[J.gD,if_neg (by omega)];exact ab
theorem gk{h:J}{o:dr}{b c:Nat}(ae:b=c):(h.set c (some o)).get b=some o:=by subst ae;rw[J.c7,if_pos rfl]
theorem dB{h:J}{b c:Nat}{o x:Option dr}(ae:¬b=c)(ab:h.get b=x):(h.set c o).get b=x:=by rw[J.c7,if_neg ae];exact ab
theorem aT{h:J}{b off:Nat}{cs:List I}{e aI up:Nat}{k:gS}{v:I}(al:h.get b=some (.cells cs e k aI up))(aN:nth off cs=some v):ar h b off=some v:=by simp only[ar,al,aN]
theorem pa{h:J}{b off m:Nat}{cs vs:List I}{e aI up:Nat}{k:gS}(al:h.get b=some (.cells cs e k aI up))(aN:takeN m (jH off cs)=some vs):bt.loadCells h b off m=some vs:=by simp only[bt.loadCells,al,aN]
theorem gN{h:J}{b off:Nat}{xs cs bT:List I}{e aI up:Nat}{k:gS}(al:h.get b=some (.cells cs e k aI up))(hw:lj k aI up off xs.length=true)(aQ:fS off xs cs=some bT):bt.storeCells h b off xs=some (h.set b (some (.cells bT e k aI up))):=by simp only[bt.storeCells,al,hw,aQ]
theorem Ext.iB{B b:Nat}{h g:J}{o:Option dr}(ae:B<=b)(e:Ext B h g):Ext B h (g.set b o):=e.trans (Nat.le_refl _) (Ext.set ae _)
theorem Ext.k2{B:Nat}{h g:J}{o:dr}(cC:B<=g.n)(e:Ext B h g):Ext B h (g.push o):=e.trans (Nat.le_refl _) (Ext.push cC _)
theorem Ext.ht{B k:Nat}{h g:J}(e:Ext B h g):Ext B h (g.room k):=⟨Nat.le_trans e.n (Nat.le_add_right _ _),e.get⟩
theorem Lx(a:List UInt8):dd a a=true:=by
 induction a with
 |nil=>rfl
 |cons x l bb=>simp[dd,bb]
theorem UQ(a b:Int):lU qN (.int .i64 a) [.int .i64 b]=some (.int .i64 (min a b)):=by
 simp only[lU,qN,if_true]
 by_cases h:b<a
 · have aw:bP b a=true:=by simp[bP];omega
   rw[if_pos aw,Int.min_eq_right (by omega)]
 · have aw:¬bP b a=true:=by simp[bP];omega
   rw[if_neg aw,Int.min_eq_left (by omega)]
theorem UR(a b:Nat):lU qN (.int .i64 (Int.ofNat a)) [.int .i64 (Int.ofNat b)]=some (.int .i64 (Int.ofNat (min a b))):=by
 rw[UQ];congr 2
 show min (a:Int) (b:Int)=((min a b:Nat):Int)
 omega
end bt
