/-
  PROVED HERE: symbolic runs of the evaluator, and that they are sound (Sxa). No condition beside each statement's own.
-/
import Derived.Test.YtjkomfonmcmgdaaGreatDoorAed
set_option linter.unusedVariables false
set_option linter.unusedSimpArgs false
namespace aM
open Go
abbrev Env:=List (Nat×I)
def er(t:Nat):Env->Option I
 |[]=>none
 |(u,v)::l=>match Nat.beq t u with
  |true=>some v
  |false=>er t l
def del(t:Nat):Env->Env
 |[]=>[]
 |(u,v)::l=>match Nat.beq t u with
  |true=>del t l
  |false=>(u,v)::del t l
def put(t:Nat)(v:I)(Γ:Env):Env:=(t,v)::del t Γ
def my(Γ:Env):List Nat->Env
 |[]=>[]
 |t::l=>match er t Γ with
  |some v=>(t,v)::my Γ l
  |none=>my Γ l
def Mod(r:aY)(Γ:Env):Prop:=∀t v,er t Γ=some v->r.get (gU t)=v
structure ah where
 Γ:Env
 d:List bQ
 q:bD
 h:J
inductive Hint where
 |v (v:I)
 |lR (v:I) (h:J)
 |c (v:I) (h:J)
 |p (v:I) (h:J)
 |b (b:Bool)
 |loop (e:bn) (st:ah)
 |RZ (v:I) (o:da)
 |o (v:I)
 |R0
def ek:List Prop->Prop
 |[]=>True
 |p::l=>p/\ek l
theorem ek.cons{p:Prop}{l:List Prop}(h:p)(t:ek l):ek (p::l):=⟨h,t⟩
theorem ek.nil:ek []:=trivial
theorem ek.append:∀{l m:List Prop},ek (l++m)->ek l/\ek m
 |[],m,h=>⟨trivial,h⟩
 |p::l,m,h=>⟨⟨h.1,(ek.append h.2).1⟩,(ek.append h.2).2⟩
def nn(m:Nat)(env:List I)(Γ:Env):Acc->Option I
 |.env j=>nth (m-1-j) env
 |.reg p=>er p.num Γ
 |.val v=>some v
def DU(o:Oper)(g:Operand->I):Nat:=match o.op with
 |.load .. |.slice .. |.index .. |.indexAddr .. |.lookup .. |.entry .. =>1
 |.binOp op _ x y _=>match op,g x,g y with
  |.eql,.int _ _,.int _ _|.neq,.int _ _,.int _ _|.lss,.int _ _,.int _ _|.leq,.int _ _,.int _ _|.gtr,.int _ _,.int _ _|.geq,.int _ _,.int _ _=>0
  |.eql,.str _,.str _|.neq,.str _,.str _|.lss,.str _,.str _|.leq,.str _,.str _|.gtr,.str _,.str _|.geq,.str _,.str _=>0
  |_,_,_=>1
 |.unOp op _ _=>match op with
  |.not=>0
  |_=>1
 |.convert _ _ x=>match g x with
  |.str _=>2
  |_=>1
 |.range _ x=>match g x with
  |.map _=>2
  |_=>0
 |.store .. |.mapUpdate .. |.mapEntry .. |.entryStore .. |.insert .. |.next .. |.makeSlice .. =>2
 |.call c=>match c.callee with
  |.builtin b=>match b with
   |.len=>match c.args.toList.map g with
    |[.map _]=>1
    |_=>0
   |.cap|.min|.max|.unsafeSliceData=>1
   |.append|.copy|.clear|.delete|.unsafeString=>2
   |_=>0
  |_=>0
 |_=>0
def gH(n:Nat)(s:List UInt8):Option I:=match nth n s with
 |some b=>some (.int .u8 (Int.ofNat b.toNat))
 |none=>none
def n_(P:Program)(o:Oper)(g:Operand->I)(h:J)(v:I):Prop:=match o.op with
 |.load t a=>match g a,pK P t,dh P t with
  |.ptr b off,some false,some _=>au h b off=some v
  |.ptr b off,some true,some n=>match v with
   |.agg cs=>loadCells h b off n=some cs
   |_=>False
  |_,_,_=>False
 |.binOp op t x y _=>match g x,g y with
  |.int k a,.int ea b=>match op with
   |.shl=>qN .shl k a b=some v
   |.shr=>qN .shr k a b=some v
   |op=>match decide (k=ea) with
    |true=>arith op k a b=some v
    |false=>False
  |.str a,.str b=>gA op a b=some v
  |a,b=>eB P h op t x y a b=some v
 |.slice t x aN af mx=>de P h t (g x) (aN.map g) (af.map g) (mx.map g)=some v
 |.index t x i=>match P.underlying t,g x,eC (g i) with
  |some .string,.str s,some n=>gH n s=some v
  |some (.array m e),.agg cs,some n=>match dh P e with
   |some sz=>n<m/\iI P e cs (n*sz)=some v
   |none=>False
  |_,_,_=>False
 |.indexAddr t x i=>match P.underlying t,g x,eC (g i) with
  |some (.array m e),.ptr b off,some n=>match dh P e with
   |some sz=>n<m/\v=.ptr b (off+n*sz)
   |none=>False
  |some (.slice e),.slice b off m c,some n=>match dh P e with
   |some sz=>n<m/\v=.ptr b (off+n*sz)
   |none=>False
  |_,_,_=>False
 |.lookup t x i ok=>h9 P h t (g x) (g i) ok=some v
 |.entry it=>sq h (g it)=some v
 |.unOp op _ x=>match op,g x with
  |.neg,.int k n=>v=.int k (k.wrap (0-n))
  |.xor,.int k n=>arith .xor k (if k.signed then-1 else k.max) n=some v
  |_,_=>False
 |.convert src dst x=>iJ P src dst (g x) h=.val v h
 |.call c=>match c.callee,c.args.toList.map g,c.argTypes[0]? with
  |.builtin .len,[x],some t=>b9 P h t x=some v
  |.builtin .cap,[x],some t=>uk P t x=some v
  |.builtin .min,x::l,_=>k7 pL x l=some v
  |.builtin .max,x::l,_=>k7 qO x l=some v
  |.builtin .unsafeSliceData,[x],some t=>hY P .unsafeSliceData #[t] [x] h=.val v h
  |_,_,_=>False
 |_=>False
def Ax(P:Program)(h:J)(t:TypeId)(l c:I):Option (I×J):=match P.underlying t,eC l,eC c with
 |some (.slice e),some l,some c=>match P.info? e,d_ P e with
  |some i,some z=>if l<=c&&Nat.ble (c*(i.bytes+1)) 1099511627776&&Nat.beq z.cells.length i.size then(match newRow h e (if c*i.size=0 then[] else fc c z.cells) with
   |some (b,an)=>some (.slice b 0 l (.exact c),an)
   |none=>none) else none
  |_,_=>none
 |_,_,_=>none
def Ay(h:J):I->Option (I×J)
 |.map m=>match h.get m with
  |some (.map _ c)=>some (.ptr h.n 0,h.push (.mapIter (some m) c [] c))
  |_=>none
 |_=>none
def u2(P:Program)(o:Oper)(g:Operand->I)(h:J)(v:I)(an:J):Prop:=match o.op with
 |.store t a x=>match g a with
  |.ptr b off=>dh P t=some (g x).cells.length/\storeCells h b off (g x).cells=some an/\v=.aP []
  |_=>False
 |.convert src dst x=>iJ P src dst (g x) h=.val v an
 |.mapUpdate t m k x=>uo P h t (g m) (g k) (g x)=some an/\v=.aP []
 |.insert t m k x=>uo P h t (g m) (g k) (g x)=some an/\v=.aP []
 |.mapEntry t m k=>oM P h t (g m) (g k)=some (v,an)
 |.entryStore t m s x=>oN h (g m) (g s) (g x)=some an/\v=.aP []
 |.next it isStr=>zz h (g it) isStr=some (v,an)
 |.range t x=>match P.underlying t with
  |some (.map _ _)=>Ay h (g x)=some (v,an)
  |_=>False
 |.makeSlice t l c=>Ax P h t (g l) (g c)=some (v,an)
 |.call c=>match c.callee,c.args.toList.map g,c.argTypes[0]? with
  |.builtin .append,[x,y],some t=>dy P h t c.argTypes[1]? x y=some (v,an)
  |.builtin .copy,[x,y],some t=>um P h t x y=some (v,an)
  |.builtin .clear,[x],some t=>oH P h t x=some (v,an)
  |.builtin .delete,[x,y],some t=>oO P h t x y=some (v,an)
  |.builtin .unsafeString,[x,y],some t=>oI P h t x y=some (v,an)
  |_,_,_=>False
 |_=>False
inductive mz where
 |ok (v:I) (d:List bQ) (q:bD) (h:J)
 |b4 (v:I) (d:List bQ) (q:bD) (h:J)
def mz.res:mz->wM
 |.ok v d q h=>.ok v d q h
 |.b4 v d q h=>.b4 v d q h
inductive kR(α:Type 1) where
 |cL (a:α)
 |stop (iY:String) (x:Option Bool)
structure gZ(α:Type):Type 1 where
 res:α
 cs:List Prop
 hs:List Hint
structure R2(l:List I):Prop where
 h:l.all I.cQ=true
def Az(call:aI->List I->J->av)(pos:String)(f:aI)(args:List I)(d:List bQ)(q:bD)(h:J):List Hint->kR (gZ mz)
 |.c v an::hs=>.cL ⟨.ok v d q an,[call f args h=.ret v an],hs⟩
 |.p v an::hs=>.cL ⟨.b4 v d q an,[call f args h=.b4 v an],hs⟩
 |_=>.stop ("call " ++pos) none
def R3(P:Program)(o:Oper):Bool:=match o.op with
 |.call c=>match c.callee with
  |.builtin b=>match b with
   |.len=>true
   |_=>false
  |_=>false
 |.binOp op t _ _ _=>match op with
  |.eql|.neq=>match P.underlying t with
   |some (.int _)=>false
   |some .string=>false
   |some .bool=>false
   |some _=>true
   |none=>false
  |_=>false
 |_=>false
def R4(P:Program)(o:Oper):List Hint->Option (I×List Hint)
 |.o v::hs=>match R3 P o with
  |true=>some (v,hs)
  |false=>none
 |_=>none
def Jj(o:Oper):List Hint->Option (TypeId×Operand×List Hint)
 |.R0::hs=>match o.op with
  |.box e x=>some (e,x,hs)
  |_=>none
 |_=>none
def DV(P:Program)(inR:Bool)(call:aI->List I->J->av)(o:Oper)(g:Operand->I)(d:List bQ)(q:bD)(h:J)(hs:List Hint):kR (gZ mz):=
 match R4 P o hs with
 |some (v,hs)=>.cL ⟨.ok v d q h,[n_ P o g h v],hs⟩
 |none=>match Jj o hs with
  |some (e,x,hs)=>.cL ⟨.ok (.ptr h.n 0) d q (h.push (.cells (g x).cells e .own 0 0)),[R2 (g x).cells],hs⟩
  |none=>match DU o g with
   |0=>match cB P o g h with
    |.val v an=>.cL ⟨.ok v d q an,[],hs⟩
    |.b4 v an=>.cL ⟨.b4 v d q an,[],hs⟩
    |.call f args an=>Az call o.pos (.fn f) args d q an hs
    |.dd l args an=>Az call o.pos (.dd l) args d q an hs
    |.k6 x=>match inR with
     |true=>.stop "defer" none
     |false=>.cL ⟨.ok (.aP []) (x::d) q h,[],hs⟩
    |.sm=>match inR with
     |true=>.stop "recover" none
     |false=>match q with
      |.none=>.cL ⟨.ok .eS d .none h,[],hs⟩
      |.done v=>.cL ⟨.ok .eS d (.done v) h,[],hs⟩
      |.act v=>.cL ⟨.ok v d (.done v) h,[],hs⟩
    |.fail w=>.stop (w++ " " ++o.pos) none
   |1=>match hs with
    |.v v::hs=>.cL ⟨.ok v d q h,[n_ P o g h v],hs⟩
    |_=>.stop ("value " ++o.pos) none
   |_=>match hs with
    |.lR v an::hs=>.cL ⟨.ok v d q an,[u2 P o g h v an],hs⟩
    |_=>.stop ("value and memory " ++o.pos) none
def DW(o:Oper)(g:Operand->I)(d:List bQ)(q:bD)(h:J)(hs:List Hint):Option (kR (gZ mz)):=match o.op with
 |.pick c a b=>match g c with
  |.bool x=>match hs with
   |.b true::hs=>some (.cL ⟨.ok (g a) d q h,[x=true],hs⟩)
   |.b false::hs=>some (.cL ⟨.ok (g b) d q h,[x=false],hs⟩)
   |_=>some (.stop ("pick " ++o.pos) (some x))
  |_=>some (.stop ("pick of what " ++o.pos) none)
 |_=>none
def AA(P:Program)(inR:Bool)(call:aI->List I->J->av)(o:Oper)(g:Operand->I)(d:List bQ)(q:bD)(h:J)(hs:List Hint):kR (gZ mz):=match DW o g d q h hs with
 |some r=>r
 |none=>DV P inR call o g d q h hs
def u3(P:Program)(inR:Bool)(call:aI->List I->J->av)(gd:Option (I×Bool))(o:Oper)(g:Operand->I)(d:List bQ)(q:bD)(h:J)(hs:List Hint):kR (gZ mz):=
 match gd with
 |none=>AA P inR call o g d q h hs
 |some (.bool x,b)=>match hs with
  |.b c::hs=>match c==b with
   |true=>match AA P inR call o g d q h hs with
    |.cL ⟨s,cs,hs⟩=>.cL ⟨s,(x=c)::cs,hs⟩
    |.stop w x=>.stop w x
   |false=>.cL ⟨.ok (.aP []) d q h,[x=c],hs⟩
  |_=>.stop ("guard " ++o.pos) (some x)
 |some (.aP [],_)=>.cL ⟨.ok (.aP []) d q h,[],hs⟩
 |_=>.stop ("guard of what " ++o.pos) none
def u4(P:Program)(need m:Nat)(env:List I)(Γ:Env)(loc:List (Nat×Acc))(o:Oper):Bool:=o.op.operands.toList.all λx=>(nn m env Γ (cE P need loc x)).isSome
def kS(P:Program)(need m:Nat)(env:List I)(Γ:Env)(loc:List (Nat×Acc))(x:Operand):I:=(nn m env Γ (cE P need loc x)).getD .bad
def Jk(env:List I)(Γ:Env)(s:Step):Option (Option (I×Bool)):=match s.guard with
 |none=>some none
 |some (a,b)=>match nn s.m env Γ a with
  |some v=>some (some (v,b))
  |none=>none
def AB(P:Program)(need:Nat)(inR:Bool)(call:aI->List I->J->av)(Γ:Env):List Step->List I->List bQ->bD->J->List Hint->kR (gZ mc)
 |[],env,d,q,h,hs=>.cL ⟨.ok env d q h,[],hs⟩
 |s::rest,env,d,q,h,hs=>
  match u4 P need s.m env Γ s.loc s.o with
  |false=>.stop ("an operand " ++s.o.pos) none
  |true=>
   match Jk env Γ s with
   |none=>.stop ("guard " ++s.o.pos) none
   |some gd=>match u3 P inR call gd s.o (kS P need s.m env Γ s.loc) d q h hs with
    |.cL ⟨.ok v bf bj an,cs,dp⟩=>match AB P need inR call Γ rest (v::env) bf bj an dp with
     |.cL ⟨x,bN,s7⟩=>.cL ⟨x,cs++bN,s7⟩
     |.stop w x=>.stop w x
    |.cL ⟨.b4 v bf bj an,cs,dp⟩=>.cL ⟨.b4 v bf bj an,cs,dp⟩
    |.stop w x=>.stop w x
def qi(need m:Nat)(env:List I)(gx:Env):List (Nat×Acc)->Env->Env
 |[],Γ=>Γ
 |(t,a)::l,Γ=>
  match Nat.testBit need t with
  |true=>match nn m env gx a with
   |some v=>put t v (qi need m env gx l Γ)
   |none=>del t (qi need m env gx l Γ)
  |false=>qi need m env gx l Γ
def AD:List (Nat×Acc)->Env->Env
 |[],Γ=>Γ
 |(t,_)::l,Γ=>del t (AD l Γ)
def J.room(h:J)(k:Nat):J:=⟨h.t,h.n+k⟩
@[simp] theorem J.R5 (h:J) (k b:Nat):(h.room k).get b=h.get b:=rfl
@[simp] theorem J.Jl (h:J) (k:Nat):(h.room k).n=h.n+k:=rfl
abbrev np:=List (Nat×Nat×J)
structure jM where
 env:List I
 d:List bQ
 q:bD
 h:J
 bc:np
def xS(P:Program)(need:Nat)(ops:Array Oper)(n:Nat)(env:List I)(Γ:Env)(s:DStep):Option (Option (I×Bool)):=match jr P need ops s.loc s.o with
 |none=>some none
 |some (a,b)=>match nn n env Γ a with
  |some v=>some (some (v,b))
  |none=>none
def s8(s:DStep):np->Bool
 |[]=>true
 |(e,_,_)::_=>Nat.testBit s.eT e
def Jm(P:Program)(t:TypeId)(l c:I)(b:Nat):Option (I×da):=match P.underlying t,eC l,eC c with
 |some (.slice e),some l,some c=>match P.info? e,d_ P e with
  |some i,some z=>match decide (l<=c)&&Nat.ble (c*(i.bytes+1)) 1099511627776&&Nat.beq z.cells.length i.size,(if c*i.size=0 then[] else fc c z.cells) with
   |true,cs=>match cs.all I.cQ with
    |true=>some (.slice b 0 l (.exact c),.cells cs e .own 0 0)
    |false=>none
   |_,_=>none
  |_,_=>none
 |_,_,_=>none
def Jn(P:Program)(op:Op)(g:Operand->I)(b:Nat)(v:I)(o:da):Prop:=match op with
 |.makeSlice t l c=>Jm P t (g l) (g c) b=some (v,o)
 |_=>False
theorem Jo{P:Program}{op:Op}{g:Operand->I}{b:Nat}{v:I}{o:da}(h:Jn P op g b v o):jX P op g b=some (v,o):=by
 cases op<;>first|exact h|exact absurd h id
def Jp(P:Program)(gd:Option (I×Bool))(s:DStep)(g:Operand->I)(b:Nat)(st:jM)(hs:List Hint):kR (gZ jM):=
 match gd with
 |none=>match hs with
  |.RZ v o::hs=>.cL ⟨⟨v::st.env,st.d,st.q,st.h.set b (some o),st.bc⟩,[Jn P s.o.op g b v o],hs⟩
  |hs=>match jX P s.o.op g b with
   |some (v,o)=>.cL ⟨⟨v::st.env,st.d,st.q,st.h.set b (some o),st.bc⟩,[],hs⟩
   |none=>.stop ("alloc " ++s.o.pos) none
 |some (.bool x,c)=>match hs with
  |.b y::hs=>match y==c with
   |true=>match jX P s.o.op g b with
    |some (v,o)=>.cL ⟨⟨v::st.env,st.d,st.q,st.h.set b (some o),st.bc⟩,[x=y],hs⟩
    |none=>.stop ("alloc " ++s.o.pos) none
   |false=>.cL ⟨⟨.aP []::st.env,st.d,st.q,st.h,st.bc⟩,[x=y],hs⟩
  |_=>.stop ("guard " ++s.o.pos) (some x)
 |some (.aP [],_)=>.cL ⟨⟨.aP []::st.env,st.d,st.q,st.h,st.bc⟩,[],hs⟩
 |_=>.stop ("guard of what " ++s.o.pos) none
def AE(P:Program)(need:Nat)(inR:Bool)(call:aI->List I->J->av)(ops:Array Oper)(Γ:Env)(cA:Nat)(s:DStep)(st:jM)(hs:List Hint):kR (gZ jM):=
 match u4 P need s.i st.env Γ s.loc s.o with
 |false=>.stop ("an operand " ++s.o.pos) none
 |true=>match xS P need ops s.i st.env Γ s with
  |none=>.stop ("guard " ++s.o.pos) none
  |some gd=>match kindOf P s.o.op with
   |.alloc=>Jp P gd s (kS P need s.i st.env Γ s.loc) (cA+s.i) st hs
   |.pure=>match u3 P inR call gd s.o (kS P need s.i st.env Γ s.loc) st.d st.q st.h hs with
    |.cL ⟨.ok v _ _ _,cs,dp⟩=>.cL ⟨⟨v::st.env,st.d,st.q,st.h,st.bc⟩,cs,dp⟩
    |.cL ⟨.b4 _ _ _ _,_,_⟩=>.stop ("a panic " ++s.o.pos) none
    |.stop w x=>.stop w x
   |.eb=>match s8 s st.bc with
    |false=>.stop ("order " ++s.o.pos) none
    |true=>match u3 P inR call gd s.o (kS P need s.i st.env Γ s.loc) st.d st.q st.h hs with
     |.cL ⟨.ok v bf bj an,cs,dp⟩=>.cL ⟨⟨v::st.env,bf,bj,an,(s.i,s.eT,st.h)::st.bc⟩,cs,dp⟩
     |.cL ⟨.b4 _ _ _ _,_,_⟩=>.stop ("a panic " ++s.o.pos) none
     |.stop w x=>.stop w x
def AF(P:Program)(need:Nat)(inR:Bool)(call:aI->List I->J->av)(ops:Array Oper)(Γ:Env)(cA:Nat):List DStep->jM->List Hint->kR (gZ jM)
 |[],st,hs=>.cL ⟨st,[],hs⟩
 |s::rest,st,hs=>match AE P need inR call ops Γ cA s st hs with
  |.cL ⟨bZ,cs,dp⟩=>match AF P need inR call ops Γ cA rest bZ dp with
   |.cL ⟨y,bN,s7⟩=>.cL ⟨y,cs++bN,s7⟩
   |.stop w x=>.stop w x
  |.stop w x=>.stop w x
def DX(P:Program)(need:Nat)(inR:Bool)(call:aI->List I->J->av)(ops:Array Oper)(Γ:Env)(s:DStep)(rest:List DStep)(st:jM)(hs:List Hint):kR (gZ (I×jM)):=
 match u4 P need s.i st.env Γ s.loc s.o with
 |false=>.stop ("an operand " ++s.o.pos) none
 |true=>match xS P need ops s.i st.env Γ s with
  |none=>.stop ("guard " ++s.o.pos) none
  |some gd=>match kindOf P s.o.op with
   |.eb=>match s8 s st.bc with
    |false=>.stop ("order " ++s.o.pos) none
    |true=>match u3 P inR call gd s.o (kS P need s.i st.env Γ s.loc) st.d st.q st.h hs with
     |.cL ⟨.b4 v bf bj an,cs,dp⟩=>match rest.all (λbg=>Nat.testBit bg.eT s.i) with
      |true=>.cL ⟨(v,⟨st.env,bf,bj,an,(s.i,s.eT,st.h)::st.bc⟩),cs,dp⟩
      |false=>.stop ("panic " ++s.o.pos) none
     |_=>.stop ("no panic " ++s.o.pos) none
   |_=>.stop ("no panic " ++s.o.pos) none
def AG(P:Program)(need:Nat)(inR:Bool)(call:aI->List I->J->av)(ops:Array Oper)(Γ:Env)(cA:Nat):List DStep->jM->List Hint->kR (gZ (I×jM))
 |[],_,_=>.stop "no panic" none
 |s::rest,st,hs=>match DX P need inR call ops Γ s rest st hs with
  |.cL y=>.cL y
  |.stop _ _=>match AE P need inR call ops Γ cA s st hs with
   |.cL ⟨bZ,cs,dp⟩=>match AG P need inR call ops Γ cA rest bZ dp with
    |.cL ⟨y,bN,s7⟩=>.cL ⟨y,cs++bN,s7⟩
    |.stop w x=>.stop w x
   |.stop w x=>.stop w x
mutual
def I.sound:I->Bool
 |.bad=>false
 |.fn _ a b=>jw a&&jw b
 |.iface _ v=>v.sound
 |.agg l=>jw l
 |.aP l=>jw l
 |_=>true
def jw:List I->Bool
 |[]=>true
 |a::l=>a.sound&&jw l
end
def Jq(o:Oper)(g:Operand->I):Option (Bool×I×I):=match o.op with
 |.pick c a b=>match g c with
  |.bool x=>some (x,g a,g b)
  |_=>none
 |_=>none
def isLen(o:Oper):Bool:=match o.op with
 |.call c=>match c.callee with
  |.builtin .len=>true
  |_=>false
 |_=>false
def xU(P:Program)(o:Oper)(g:Operand->I)(h:J)(v:I):List Prop:=match Jq o g with
 |some (x,a,b)=>[v.sound=true,cond x a b=v]
 |none=>match isLen o with
  |true=>[v.sound=true,n_ P o g h v]
  |false=>match DU o g with
   |1=>[v.sound=true,n_ P o g h v]
   |_=>match cB P o g h with
    |.val v' _=>[v.sound=true,v'=v]
    |_=>[False]
def lookW(v:I)(q p:Prop):Prop:=match v with
 |.aP []=>q
 |_=>p
def DY(P:Program)(need:Nat)(ops:Array Oper)(Γ:Env)(n:Nat)(env:List I)(s:DStep)(v:I)(h:J):List Prop:=
 match u4 P need n env Γ s.loc s.o,xS P need ops n env Γ s with
 |true,some gd=>match gd with
  |none=>xU P s.o (kS P need n env Γ s.loc) h v
  |some (.bool x,b)=>[lookW v ((x==b)=false) (ek (xU P s.o (kS P need n env Γ s.loc) h v))]
  |some (.aP [],_)=>[]
  |_=>[False]
 |_,_=>[False]
def qj(s:DStep)(dQ:Option Nat)(bc:np):Bool:=(match dQ with|none=>false|some e=>Nat.testBit s.eT e)||(match bc with|[]=>false|(_,m,_)::_=>Nat.testBit m s.i)
def u5(P:Program)(need:Nat)(ops:Array Oper)(Γ:Env)(n:Nat)(env:List I)(s:DStep)(v:I):Option Nat->J->np->List Prop
 |dQ,h,bc=>
  (match qj s dQ bc with
   |true=>[]
   |false=>DY P need ops Γ n env s v h)++
  (match bc with
   |[]=>[]
   |(e,_,an)::rest=>u5 P need ops Γ n env s v (some e) an rest)
def AH(P:Program)(need:Nat)(ops:Array Oper)(Γ:Env)(n:Nat)(env:List I)(h:J)(bc:np):List DStep->List Prop
 |[]=>[]
 |s::rest=>(match Nat.blt s.i n,kindOf P s.o.op with
   |true,.pure=>u5 P need ops Γ n env s ((nth (n-1-s.i) env).getD .bad) none h bc
   |_,_=>[])++AH P need ops Γ n env h bc rest
def AI(P:Program)(need:Nat)(ops:Array Oper)(Γ:Env)(n:Nat)(env:List I)(last:Option Nat)(h:J)(bc:np):List DStep->List Prop
 |[]=>[]
 |s::rest=>(match Nat.blt s.i n,kindOf P s.o.op with
   |true,.pure=>u5 P need ops Γ n env s ((nth (n-1-s.i) env).getD .bad) last h bc
   |_,_=>[])++AI P need ops Γ n env last h bc rest
def DZ(P:Program)(need:Nat)(inR:Bool)(call:aI->List I->J->av)(ops:Array Oper)(st:ah)(hs:List Hint):kR (gZ (bn×ah)):=
 match AG P need inR call ops st.Γ st.h.n (e1 ops.toList 0 [] []) ⟨[],st.d,st.q,st.h.room ops.size,[]⟩ hs with
 |.cL ⟨(v,⟨env,d,q,h,(e,m,h0)::bc⟩),cs,dp⟩=>.cL ⟨(.b4 v,⟨AD (iK ops.toList 0 []) st.Γ,d,q,h⟩),cs++AI P need ops st.Γ env.length env (some e) h0 bc (e1 ops.toList 0 [] []),dp⟩
 |.cL _=>.stop "no panic" none
 |.stop w x=>.stop w x
def D0(P:Program)(need:Nat)(inR:Bool)(call:aI->List I->J->av)(ops:Array Oper)(st:ah)(hs:List Hint):kR (gZ (bn×ah)):=
 match AF P need inR call ops st.Γ st.h.n (e1 ops.toList 0 [] []) ⟨[],st.d,st.q,st.h.room ops.size,[]⟩ hs with
 |.cL ⟨⟨env,d,q,h,bc⟩,cs,dp⟩=>.cL ⟨(.nrm,⟨qi need env.length env st.Γ (iK ops.toList 0 []) st.Γ,d,q,h⟩),cs++AH P need ops st.Γ env.length env h bc (e1 ops.toList 0 [] []),dp⟩
 |.stop _ _=>DZ P need inR call ops st hs
def cZ(P:Program)(need:Nat)(rd:Option Nat)(call:aI->List I->J->av)(c:Code)(st:ah)(e:bn)(bZ:ah):Prop:=
 ∀r,Mod r st.Γ->∃r',du P need rd call c r st.d st.q st.h=.ok e r' bZ.d bZ.q bZ.h/\Mod r' bZ.Γ
def R6(need:Nat)(Γ:Env)(loc:List (Nat×Acc)):mc->Option (bn×ah)
 |.ok env d q h=>some (.nrm,⟨qi need env.length env Γ loc Γ,d,q,h⟩)
 |.b4 v d q h=>some (.b4 v,⟨AD loc Γ,d,q,h⟩)
 |.fail _=>none
def lf(P:Program)(need:Nat)(rd:Option Nat)(call:aI->List I->J->av):Code->ah->List Hint->kR (gZ (bn×ah))
 |.skip,st,hs=>.cL ⟨(.nrm,st),[],hs⟩
 |.label _,st,hs=>.cL ⟨(.nrm,st),[],hs⟩
 |.exit id,st,hs=>.cL ⟨(.exit id,st),[],hs⟩
 |.ret,st,hs=>.cL ⟨(.ret,st),[],hs⟩
 |.scope b,st,hs=>lf P need rd call b st hs
 |.region id ops draw,st,hs=>
  match draw with
  |false=>
   match AB P need rd.isSome call st.Γ (oP P need ops).steps [] st.d st.q st.h hs with
   |.cL ⟨x,cs,dp⟩=>match R6 need st.Γ (oP P need ops).loc x with
    |some r=>.cL ⟨r,cs,dp⟩
    |none=>.stop "region" none
   |.stop w x=>.stop w x
  |true=>D0 P need rd.isSome call ops st hs
 |.seq a b,st,hs=>match lf P need rd call a st hs with
  |.cL ⟨(.nrm,bZ),cs,dp⟩=>match lf P need rd call b bZ dp with
   |.cL ⟨r,bN,s7⟩=>.cL ⟨r,cs++bN,s7⟩
   |.stop w x=>.stop w x
  |x=>x
 |.cond c a b,st,hs=>match nn 0 [] st.Γ (cE P need [] c) with
  |some (.bool x)=>match hs with
   |.b true::hs=>match lf P need rd call a st hs with
    |.cL ⟨r,cs,dp⟩=>.cL ⟨r,(x=true)::cs,dp⟩
    |.stop w x=>.stop w x
   |.b false::hs=>match lf P need rd call b st hs with
    |.cL ⟨r,cs,dp⟩=>.cL ⟨r,(x=false)::cs,dp⟩
    |.stop w x=>.stop w x
   |_=>.stop "if" (some x)
  |_=>.stop "if what" none
 |.block id b,st,hs=>match lf P need rd call b st hs with
  |.cL ⟨(.exit i,bZ),cs,dp⟩=>match Nat.beq i id with
   |true=>.cL ⟨(.nrm,bZ),cs,dp⟩
   |false=>.cL ⟨(.exit i,bZ),cs,dp⟩
  |x=>x
 |.loop b,st,hs=>match hs with
  |.loop e bZ::hs=>.cL ⟨(e,bZ),[cZ P need rd call (.loop b) st e bZ],hs⟩
  |_=>.stop "loop" none
 |.rangeFunc f ps as cf,st,hs=>match hs with
  |.loop e bZ::hs=>.cL ⟨(e,bZ),[cZ P need rd call (.rangeFunc f ps as cf) st e bZ],hs⟩
  |_=>.stop "range over a function" none
 |.goto _,_,_=>.stop "goto" none
 |.refuse _,_,_=>.stop "refuse" none
end aM
namespace aM
open Go
theorem D1:∀(p q:h8),p.num=q.num->p=q
 |.here,.here,_=>rfl
 |.here,.l q,h=>by simp only[h8.num] at h;omega
 |.here,.r q,h=>by simp only[h8.num] at h;omega
 |.l p,.here,h=>by simp only[h8.num] at h;omega
 |.r p,.here,h=>by simp only[h8.num] at h;omega
 |.l p,.l q,h=>by rw[D1 p q (by simp only[h8.num] at h;omega)]
 |.r p,.r q,h=>by rw[D1 p q (by simp only[h8.num] at h;omega)]
 |.l p,.r q,h=>by simp only[h8.num] at h;omega
 |.r p,.l q,h=>by simp only[h8.num] at h;omega
theorem Jr(p:h8):gU p.num=p:=D1 _ _ (zE _)
theorem s9(t u:Nat):(t=u/\Nat.beq t u=true)\/(t≠u/\Nat.beq t u=false):=by
 by_cases h:t=u
 · exact .inl ⟨h,by simp[h]⟩
 · refine .inr ⟨h,?_⟩
   cases ae:Nat.beq t u with
   |false=>rfl
   |true=>exact absurd (Nat.eq_of_beq_eq_true ae) h
theorem D2(t u:Nat):∀Γ:Env,er t (del u Γ)=if t=u then none else er t Γ
 |[]=>by simp[del,er]
 |(x,v)::l=>by
  have a6:=D2 t u l
  simp only[del]
  rcases s9 u x with⟨e,ae⟩|⟨e,ae⟩
  · rw[ae];simp only[a6,er]
    subst e
    rcases s9 t u with⟨ay,fw⟩|⟨ay,fw⟩
    · rw[if_pos ay,if_pos ay]
    · rw[if_neg ay,if_neg ay,fw]
  · rw[ae];simp only[er,a6]
    rcases s9 t x with⟨ay,fw⟩|⟨ay,fw⟩
    · rw[fw];simp only[]
      rw[if_neg]
      intro h;exact e (by rw[<-h,ay])
    · rw[fw]
theorem R7(t u:Nat)(v:I)(Γ:Env):er t (put u v Γ)=if t=u then some v else er t Γ:=by
 simp only[put,er]
 rcases s9 t u with⟨e,ae⟩|⟨e,ae⟩
 · rw[ae,if_pos e]
 · rw[ae,if_neg e,D2,if_neg e]
theorem Mod.put{r:aY}{Γ:Env}(h:Mod r Γ)(t:Nat)(v:I):Mod (r.set (gU t) v) (put t v Γ):=by
 intro u x aa
 rw[R7] at aa
 rw[aY.cR]
 by_cases e:u=t
 · rw[if_pos e] at aa⊢;cases aa;rfl
 · rw[if_neg e] at aa⊢;exact h u x aa
theorem Mod.del{r:aY}{Γ:Env}(h:Mod r Γ)(t:Nat)(v:I):Mod (r.set (gU t) v) (del t Γ):=by
 intro u x aa
 rw[D2] at aa
 rw[aY.cR]
 by_cases e:u=t
 · rw[if_pos e] at aa;cases aa
 · rw[if_neg e] at aa⊢;exact h u x aa
theorem D3(Γ:Env)(t:Nat)(v:I):∀l,er t (my Γ l)=some v->er t Γ=some v
 |[],h=>by simp[my,er] at h
 |u::l,h=>by
  simp only[my] at h
  cases hu:er u Γ with
  |none=>rw[hu] at h;exact D3 Γ t v l h
  |some x=>
   rw[hu] at h
   simp only[er] at h
   rcases s9 t u with⟨e,ae⟩|⟨e,ae⟩
   · rw[ae] at h;rw[e,hu];exact h
   · rw[ae] at h;exact D3 Γ t v l h
theorem Mod.my{r:aY}{Γ:Env}(h:Mod r Γ)(l:List Nat):Mod r (my Γ l):=λt v a_=>h t v (D3 Γ t v l a_)
theorem s_{m:Nat}{env:List I}{r:aY}{Γ:Env}(hm:Mod r Γ){a:Acc}{v:I}(h:nn m env Γ a=some v):dt m env r a=v:=by
 cases a with
 |env j=>simp only[nn] at h;simp only[dt,h,Option.getD_some]
 |reg p=>simp only[nn] at h;simp only[dt];rw[<-Jr p];exact hm _ _ h
 |val x=>cases h;rfl
section
variable {P:Program}
theorem ta{o:Oper}{g:Operand->I}{h:J}{v:I}(ag:n_ P o g h v):cB P o g h=.val v h:=by
 obtain⟨dst,op,type,pos,after,guard⟩:=o
 cases op<;>simp only[n_] at ag<;>(try exact ag.elim)
 case load t a=>
  split at ag
  · rename_i b off n al aS aK
    simp only[cB,al,aS,ag,fC]
  · rename_i b off n al aS aK
    split at ag
    · simp only[cB,al,aS,aK,ag]
    · exact ag.elim
  · exact ag.elim
 case binOp op t x y yt=>
  split at ag
  · rename_i k a ea b aa aW
    split at ag
    · simp only[cB,aa,aW,eB,ag,fC]
    · simp only[cB,aa,aW,eB,ag,fC]
    · rename_i hN j2
      split at ag
      · rename_i aq
        have eU:k=ea:=of_decide_eq_true aq
        simp only[cB,aa,aW,eB]
        cases op<;>first|exact absurd rfl hN|exact absurd rfl j2|(simp only[if_pos eU,ag,fC])
      · exact ag.elim
  · rename_i a b aa aW
    simp only[cB,aa,aW,eB,ag,fC]
  · simp only[cB,ag,fC]
 case unOp op t x=>
  split at ag
  · rename_i k n aa;simp only[cB,aa,ag]
  · rename_i k n aa;simp only[cB,aa,ag,fC]
  · exact ag.elim
 case slice t x aN af mx=>simp only[cB,ag,fC]
 case index t x i=>
  split at ag
  · rename_i s n hu aa af
    unfold gH at ag
    simp only[cB,hu,aa,af]
    split at ag
    · rename_i fh ae;cases ag;simp only[ae]
    · cases ag
  · rename_i m e cs n hu aa af
    split at ag
    · rename_i sz bw
      simp only[cB,hu,aa,af,bw,if_pos ag.1,ag.2,fC]
    · exact ag.elim
  · exact ag.elim
 case indexAddr t x i=>
  split at ag
  · rename_i m e b off n hu aa af
    split at ag
    · rename_i sz bw
      simp only[cB,hu,aa,af,bw,if_pos ag.1,ag.2]
    · exact ag.elim
  · rename_i e b off m c n hu aa af
    split at ag
    · rename_i sz bw
      simp only[cB,hu,aa,af,bw,if_pos ag.1,ag.2]
    · exact ag.elim
  · exact ag.elim
 case lookup t x i ok=>simp only[cB,ag,fC]
 case entry it=>simp only[cB,ag,fC]
 case convert src dst x=>simp only[cB,ag]
 case call c=>
  split at ag
  · rename_i x t jf hx a_;simp only[cB,jf,hx,hY,a_,ag,fC]
  · rename_i x t jf hx a_;simp only[cB,jf,hx,hY,a_,ag,fC]
  · rename_i x l _ jf hx;simp only[cB,jf,hx,hY,ag,fC]
  · rename_i x l _ jf hx;simp only[cB,jf,hx,hY,ag,fC]
  · rename_i x t jf hx a_
    simp only[cB,jf,hx]
    simp only[hY,a_] at ag⊢
    exact ag
  · exact ag.elim
theorem Js:∀(n:Nat) (cs bN:List I),fN n [I.bad] cs=some bN->False
 |0,[],_,h=>by simp[fN] at h
 |0,_::_,_,h=>by simp[fN,I.cQ] at h
 |_+1,[],_,h=>by simp[fN] at h
 |n+1,c::cs,bN,h=>by
  simp only[fN] at h
  split at h
  · rename_i r ak;exact Js n cs r ak
  · cases h
theorem R8{h an:J}{b off:Nat}(hs:aM.storeCells h b off (I.cells .bad)=some an):False:=by
 unfold aM.storeCells at hs
 split at hs
 · split at hs
   · split at hs
     · rename_i aO;exact Js _ _ _ aO
     · cases hs
   · cases hs
 · cases hs
theorem D4{o:Oper}{g:Operand->I}{h an:J}{v:I}(ag:u2 P o g h v an):cB P o g h=.val v an:=by
 obtain⟨dst,op,type,pos,after,guard⟩:=o
 cases op<;>simp only[u2] at ag<;>(try exact ag.elim)
 case store t a x=>
  split at ag
  · rename_i b off al
    obtain⟨ab,ad,rfl⟩:=ag
    simp only[cB,al]
    rw[ab]
    have ae:g x≠ .bad:=λae=>by
     rw[ae] at ad
     exact R8 ad
    cases eV:g x<;>first|exact absurd eV ae|(rw[eV] at ad;simp[ad,pN])
  · exact ag.elim
 case convert src dst x=>simp only[cB,ag]
 case mapUpdate t m k x=>obtain⟨ab,rfl⟩:=ag;simp only[cB,ab,pN]
 case insert t m k x=>obtain⟨ab,rfl⟩:=ag;simp only[cB,ab,pN]
 case mapEntry t m k=>simp only[cB,ag,k8]
 case entryStore t m s x=>obtain⟨ab,rfl⟩:=ag;simp only[cB,ab,pN]
 case next it isStr=>simp only[cB,ag,k8]
 case range t x=>
  split at ag
  · rename_i kt iZ hu
    unfold Ay at ag
    split at ag
    · rename_i m al
      split at ag
      · rename_i es c hm
        cases ag
        simp only[cB,hu,al,hm]
      · cases ag
    · cases ag
  · exact ag.elim
 case makeSlice t l c=>
  unfold Ax at ag
  simp only[cB]
  split at ag
  · rename_i e nZ c' hu aw xK
    split at ag
    · rename_i i z af aZ
      simp only[hu,aw,xK,af,aZ]
      split at ag
      · rename_i ki
        rw[if_pos ki]
        split at ag
        · rename_i b ai aK;cases ag;simp only[aK]
        · cases ag
      · cases ag
    · cases ag
  · cases ag
 case call c=>
  split at ag
  · rename_i x y t jf hx a_;simp only[cB,jf,hx,hY,a_,ag,k8]
  · rename_i x y t jf hx a_;simp only[cB,jf,hx,hY,a_,ag,k8]
  · rename_i x t jf hx a_;simp only[cB,jf,hx,hY,a_,ag,k8]
  · rename_i x y t jf hx a_;simp only[cB,jf,hx,hY,a_,ag,k8]
  · rename_i x y t jf hx a_;simp only[cB,jf,hx,hY,a_,ag,k8]
  · exact ag.elim
variable {inR:Bool} {call:aI->List I->J->av}
theorem Jt{pos:String}{f:aI}{args:List I}{d:List bQ}{q:bD}{h:J}{hs:List Hint}{y:gZ mz}(aa:Az call pos f args d q h hs=.cL y)(ag:ek y.cs):wN d q (call f args h)=y.res.res:=by
 unfold Az at aa
 split at aa
 · cases aa;rw[ag.1];rfl
 · cases aa;rw[ag.1];rfl
 · cases aa
theorem R9{o:Oper}{g:Operand->I}{d:List bQ}{q:bD}{h:J}{hs:List Hint}{y:gZ mz}(aa:DV P inR call o g d q h hs=.cL y)(ag:ek y.cs):
  dL P inR call none o g d q h=y.res.res:=by
 unfold DV at aa
 unfold dL
 simp only[ep]
 split at aa
 · cases aa
   rw[ta ag.1];rfl
 · split at aa
   · rename_i e x dp bu
     cases aa
     have ab:(g x).cells.all I.cQ=true:=ag.1.h
     have he:o.op=.box e x:=by
      unfold Jj at bu
      split at bu
      · split at bu
        · rename_i he;cases bu;exact he
        · cases bu
      · cases bu
     have:cB P o g h=.val (.ptr h.n 0) (h.push (.cells (g x).cells e .own 0 0)):=by
      unfold cB;rw[he];simp only[newRow,ab]
     rw[this];rfl
   · split at aa
     · split at aa
       · rename_i fi;cases aa;rw[fi];rfl
       · rename_i fi;cases aa;rw[fi];rfl
       · rename_i fi;rw[fi];exact Jt aa ag
       · rename_i fi;rw[fi];exact Jt aa ag
       · rename_i z fi
         split at aa
         · cases aa
         · cases aa;rw[fi];rfl
       · rename_i fi
         split at aa
         · cases aa
         · split at aa
           · cases aa;rw[fi];rfl
           · cases aa;rw[fi];rfl
           · cases aa;rw[fi];rfl
       · cases aa
     · split at aa
       · cases aa
         rw[ta ag.1];rfl
       · cases aa
     · split at aa
       · cases aa
         rw[D4 ag.1];rfl
       · cases aa
theorem Ju{o:Oper}{g:Operand->I}{d:List bQ}{q:bD}{h:J}{hs:List Hint}{y:gZ mz}(aa:AA P inR call o g d q h hs=.cL y)(ag:ek y.cs):
  dL P inR call none o g d q h=y.res.res:=by
 unfold AA at aa
 cases aO:DW o g d q h hs with
 |none=>rw[aO] at aa;exact R9 aa ag
 |some z=>
  rw[aO] at aa
  simp only at aa
  subst aa
  unfold DW at aO
  split at aO
  · rename_i gh a b fo
    split at aO
    · rename_i fh al
      split at aO
      · cases aO
        obtain⟨rfl,_⟩:=ag
        unfold dL cB
        simp[ep,fo,al,mz.res]
      · cases aO
        obtain⟨rfl,_⟩:=ag
        unfold dL cB
        simp[ep,fo,al,mz.res]
      · cases aO
    · cases aO
  · cases aO
theorem u6{gd:Option (I×Bool)}(hw:ep gd=some true)(o:Oper)(g:Operand->I)(d:List bQ)(q:bD)(h:J):dL P inR call gd o g d q h=dL P inR call none o g d q h:=by
 unfold dL
 rw[hw]
 rfl
theorem xV{gd:Option (I×Bool)}(hw:ep gd=some false)(o:Oper)(g:Operand->I)(d:List bQ)(q:bD)(h:J):dL P inR call gd o g d q h=.ok (.aP []) d q h:=by
 unfold dL
 simp only[hw]
theorem xW{gd:Option (I×Bool)}{o:Oper}{g:Operand->I}{d:List bQ}{q:bD}{h:J}{hs:List Hint}{y:gZ mz}(aa:u3 P inR call gd o g d q h hs=.cL y)(ag:ek y.cs):
  dL P inR call gd o g d q h=y.res.res:=by
 unfold u3 at aa
 split at aa
 · exact Ju aa ag
 · rename_i acw b
   split at aa
   · rename_i c hN
     split at aa
     · rename_i lG
       split at aa
       · rename_i s jJ j2 fe
         cases aa
         obtain⟨rfl,u7⟩:=ag
         rw[u6 (by simp only[ep];rw[lG])]
         exact(Ju fe u7:)
       · cases aa
     · rename_i lG
       cases aa
       obtain⟨rfl,_⟩:=ag
       rw[xV (by simp only[ep];rw[lG])];rfl
   · cases aa
 · cases aa
   rw[xV rfl];rfl
 · cases aa
variable {need:Nat}
theorem AJ{m:Nat}{env:List I}{r:aY}{Γ:Env}(hm:Mod r Γ){loc:List (Nat×Acc)}{o:Oper}(aq:u4 P need m env Γ loc o=true):∀x∈o.op.operands,dt m env r (cE P need loc x)=kS P need m env Γ loc x:=by
 intro x aa
 unfold u4 at aq
 rw[List.all_eq_true] at aq
 have:=aq x (by simpa using aa)
 obtain⟨v,aB⟩:=Option.isSome_iff_exists.1 this
 unfold kS
 rw[aB,s_ hm aB];rfl
theorem Jv{r:aY}{Γ:Env}(hm:Mod r Γ):∀(l:List Step) (env:List I) (d:List bQ) (q:bD) (h:J) (hs:List Hint) (y:gZ mc),AB P need inR call Γ l env d q h hs=.cL y->ek y.cs->
  h_ P need inR call r l env d q h=y.res
 |[],env,d,q,h,hs,y,aa,ag=>by cases aa;rfl
 |s::rest,env,d,q,h,hs,y,aa,ag=>by
  simp only[AB] at aa
  split at aa
  · cases aa
  · rename_i aq
    split at aa
    · cases aa
    · rename_i gd gv
      have key:∀z,dL P inR call gd s.o (kS P need s.m env Γ s.loc) d q h=z->h_ P need inR call r (s::rest) env d q h=match z with
        |.ok v bf bj an=>h_ P need inR call r rest (v::env) bf bj an
        |.b4 v bf bj an=>.b4 v bf bj an
        |.fail w=>.fail w:=λz aZ=>by
       simp only[h_]
       rw[<-aZ,<-s0 (AJ hm aq)]
       unfold Jk at gv
       cases DE:s.guard with
       |none=>rw[DE] at gv;cases gv;rfl
       |some p=>
        obtain⟨a,b⟩:=p
        rw[DE] at gv
        simp only at gv
        cases aB:nn s.m env Γ a with
        |none=>rw[aB] at gv;cases gv
        |some v=>rw[aB] at gv;cases gv;simp only[s_ hm aB];rfl
      split at aa
      · rename_i v bf bj an jJ hN fE
        split at aa
        · rename_i z xX j2 m6
          cases aa
          obtain⟨aG,a9⟩:=ek.append ag
          have ab:=xW fE aG
          have g0:dL P inR call gd s.o (kS P need s.m env Γ s.loc) d q h=.ok v bf bj an:=ab
          rw[key _ g0]
          exact(Jv hm rest (v::env) bf bj an hN _ m6 a9:)
        · cases aa
      · rename_i v bf bj an jJ hN fE
        cases aa
        have ab:=xW fE ag
        have g0:dL P inR call gd s.o (kS P need s.m env Γ s.loc) d q h=.b4 v bf bj an:=ab
        rw[key _ g0]
      · cases aa
theorem AK{m:Nat}{env:List I}{fv:aY}{gx:Env}(hm:Mod fv gx):∀(l:List (Nat×Acc)) (r:aY) (Γ:Env),Mod r Γ->Mod (oQ need m env fv l r) (qi need m env gx l Γ)
 |[],r,Γ,h=>h
 |(t,a)::l,r,Γ,h=>by
  have a6:=AK (m:=m) (env:=env) hm l r Γ h
  simp only[oQ,qi]
  cases Nat.testBit need t with
  |false=>exact a6
  |true=>
   simp only
   cases al:nn m env gx a with
   |some v=>simp only;rw[s_ hm al];exact a6.put t v
   |none=>simp only;exact a6.del t _
theorem D5:∀(l:List (Nat×Acc)) (r:aY) (Γ:Env),Mod r Γ->Mod (ur l r) (AD l Γ)
 |[],r,Γ,h=>h
 |(t,a)::l,r,Γ,h=>(D5 l r Γ h).del t _
mutual
theorem tb:∀v:I,v.sound=true->I.beq v v=true
 |.bool b,_=>by simp[I.beq]
 |.int k n,_=>by simp[I.beq,a8]
 |.str s,_=>by simp[I.beq,nW]
 |.bb,_=>rfl
 |.ptr a i,_=>by simp[I.beq]
 |.a0,_=>rfl
 |.slice a i n c,_=>by cases c<;>simp[I.beq,b3.beq]
 |.hW,_=>rfl
 |.map a,_=>by simp[I.beq]
 |.fL,_=>rfl
 |.fn f a b,h=>by
  simp only[I.sound,Bool.and_eq_true] at h
  simp only[I.beq,xY a h.1,xY b h.2,Bool.and_true]
  simp
 |.dd a,_=>by simp[I.beq]
 |.eS,_=>rfl
 |.iface t v,h=>by
  simp only[I.sound] at h
  simp only[I.beq,tb v h,Bool.and_true]
  simp
 |.agg l,h=>by
  simp only[I.sound] at h
  simp only[I.beq,xY l h]
 |.aP l,h=>by
  simp only[I.sound] at h
  simp only[I.beq,xY l h]
 |.bad,h=>by simp[I.sound] at h
theorem xY:∀l:List I,jw l=true->I.m1 l l=true
 |[],_=>rfl
 |a::l,h=>by
  simp only[jw,Bool.and_eq_true] at h
  simp only[I.m1,tb a h.1,xY l h.2,Bool.and_true]
end
theorem D6{ops:Array Oper}{r:aY}{Γ:Env}(hm:Mod r Γ){n:Nat}{env:List I}{s:DStep}{gd:Option (I×Bool)}(h:xS P need ops n env Γ s=some gd):gL P need ops r n env s=gd:=by
 unfold xS at h
 unfold gL
 split at h
 · rename_i al;rw[al];cases h;rfl
 · rename_i a b al
   rw[al]
   split at h
   · rename_i v aB
     cases h
     simp only[s_ hm aB]
   · cases h
def R_(P:Program)(need:Nat)(inR:Bool)(call:aI->List I->J->av)(ops:Array Oper)(r:aY)(cA:Nat)(s:DStep)(st bZ:jM):Prop:=
 ∀rest,gj P need inR call ops r cA (s::rest) st.env st.d st.q st.h st.bc=gj P need inR call ops r cA rest bZ.env bZ.d bZ.q bZ.h bZ.bc
theorem Jw{ops:Array Oper}{r:aY}{Γ:Env}(hm:Mod r Γ){cA:Nat}{s:DStep}{st:jM}{hs:List Hint}{y:gZ jM}(aa:AE P need inR call ops Γ cA s st hs=.cL y)(ag:ek y.cs):R_ P need inR call ops r cA s st y.res:=by
 intro rest
 unfold AE at aa
 split at aa
 · cases aa
 · rename_i aq
   have al:=AJ hm aq
   split at aa
   · cases aa
   · rename_i gd gv
     have ao:=D6 hm gv
     split at aa
     · rename_i g1
       have aS:=xD (P:=P) (o:=s.o.op) (b:=cA+s.i) al
       simp only[gj,g1,ao]
       rw[aS]
       unfold Jp at aa
       split at aa
       · split at aa
         · cases aa
           have h2:=Jo ag.1
           simp only[ep,h2]
         · split at aa
           · rename_i v o h2
             cases aa
             simp only[ep,h2]
           · cases aa
       · split at aa
         · rename_i x c _ jg hN
           split at aa
           · rename_i D7
             split at aa
             · rename_i v o h2
               cases aa
               obtain⟨rfl,_⟩:=ag
               simp only[ep,D7,h2]
             · cases aa
           · rename_i D7
             cases aa
             obtain⟨rfl,_⟩:=ag
             simp only[ep,D7]
         · cases aa
       · cases aa
         simp only[ep]
       · cases aa
     · rename_i g1
       simp only[gj,g1,ao]
       rw[s0 al]
       split at aa
       · rename_i v bf bj an jJ hN fE
         cases aa
         have ab:=xW fE ag
         have g0:dL P inR call gd s.o (kS P need s.i st.env Γ s.loc) st.d st.q st.h=.ok v bf bj an:=ab
         rw[g0]
       · cases aa
       · cases aa
     · rename_i g1
       split at aa
       · cases aa
       · rename_i ld
         simp only[gj,g1,ao]
         rw[s0 al]
         split at aa
         · rename_i v bf bj an jJ hN fE
           cases aa
           have ab:=xW fE ag
           have g0:dL P inR call gd s.o (kS P need s.i st.env Γ s.loc) st.d st.q st.h=.ok v bf bj an:=ab
           rw[g0]
           cases ch:st.bc with
           |nil=>rfl
           |cons a l=>
            obtain⟨e,m,ai⟩:=a
            rw[ch] at ld
            simp only[s8] at ld
            simp only[ld]
         · cases aa
         · cases aa
theorem Jx{ops:Array Oper}{r:aY}{Γ:Env}(hm:Mod r Γ){cA:Nat}:∀(l:List DStep) (st:jM) (hs:List Hint) (y:gZ jM),AF P need inR call ops Γ cA l st hs=.cL y->ek y.cs->
  gj P need inR call ops r cA l st.env st.d st.q st.h st.bc=.ok y.res.env y.res.d y.res.q y.res.h y.res.bc
 |[],st,hs,y,aa,ag=>by cases aa;rfl
 |s::rest,st,hs,y,aa,ag=>by
  simp only[AF] at aa
  split at aa
  · rename_i st1 jJ hN ab
    split at aa
    · rename_i jN xX j2 ad
      cases aa
      obtain⟨aG,a9⟩:=ek.append ag
      rw[Jw hm ab aG rest]
      exact(Jx hm rest st1 hN ⟨jN,xX,j2⟩ ad a9:)
    · cases aa
  · cases aa
theorem Sa{o:Oper}{g:Operand->I}{h:J}{v:I}(ag:ek (xU P o g h v)):∃v' an,cB P o g h=.val v' an/\I.beq v' v=true:=by
 unfold xU at ag
 split at ag
 · rename_i x a b aO
   obtain⟨ab,ad,_⟩:=ag
   refine⟨v,h,?_,tb v ab⟩
   unfold Jq at aO
   split at aO
   · rename_i c cy hK a2
     split at aO
     · rename_i Rp AL
       cases aO
       cases x<;>simp only[cB,a2,AL]<;>rw[<-ad]<;>rfl
     · cases aO
   · cases aO
 split at ag
 · exact⟨v,h,ta ag.2.1,tb v ag.1⟩
 split at ag
 · exact⟨v,h,ta ag.2.1,tb v ag.1⟩
 · split at ag
   · rename_i v' an he
     obtain⟨ab,rfl,_⟩:=ag
     exact⟨v',an,he,tb v' ab⟩
   · exact ag.1.elim
theorem Jy{ops:Array Oper}{r:aY}{Γ:Env}(hm:Mod r Γ){n:Nat}{env:List I}{s:DStep}{v:I}{h:J}(ag:ek (DY P need ops Γ n env s v h)):lC P need ops r n env s v h=true:=by
 unfold DY at ag
 unfold lC
 split at ag
 · rename_i gd aq gv
   rw[D6 hm gv]
   have al:=AJ hm aq
   have key:ek (xU P s.o (kS P need n env Γ s.loc) h v)->(match cB P s.o (λx=>dt n env r (cE P need s.loc x)) h with
     |.val v' _=>I.beq v' v
     |_=>false)=true:=λaw=>by
    rw[xC s.o h al]
    obtain⟨v',an,aA,ay⟩:=Sa aw
    rw[aA];exact ay
   split at ag
   · simp only[ep];exact key ag
   · rename_i x b
     simp only[ep]
     obtain⟨ag,_⟩:=ag
     unfold lookW at ag
     split at ag
     · rw[ag]
     · cases CZ:(x==b) with
       |false=>rfl
       |true=>exact key ag
   · rfl
   · exact ag.1.elim
 · exact ag.1.elim
theorem AM{ops:Array Oper}{r:aY}{n:Nat}{env:List I}{s:DStep}{v:I}(dQ:Option Nat)(h:J)(bc:np):kJ P need ops r n env s v dQ h bc=
  ((match qj s dQ bc with|true=>true|false=>lC P need ops r n env s v h)&&(match bc with|[]=>true|(e,_,an)::rest=>kJ P need ops r n env s v (some e) an rest)):=by
 cases bc<;>(rw[kJ.eq_def];rfl)
theorem D8{ops:Array Oper}{r:aY}{Γ:Env}(hm:Mod r Γ){n:Nat}{env:List I}{s:DStep}{v:I}:∀(bc:np) (dQ:Option Nat) (h:J),ek (u5 P need ops Γ n env s v dQ h bc)->kJ P need ops r n env s v dQ h bc=true
 |[],dQ,h,ag=>by
  rw[AM]
  unfold u5 at ag
  obtain⟨aG,_⟩:=ek.append ag
  cases ae:qj s dQ [] with
  |true=>rfl
  |false=>rw[ae] at aG;simp only[Bool.and_true];exact Jy hm aG
 |(e,m,an)::rest,dQ,h,ag=>by
  rw[AM]
  unfold u5 at ag
  obtain⟨aG,a9⟩:=ek.append ag
  have a6:=D8 hm rest (some e) an a9
  cases ae:qj s dQ ((e,m,an)::rest) with
  |true=>simp only[Bool.true_and];exact a6
  |false=>
   rw[ae] at aG
   simp only
   rw[Jy hm aG,Bool.true_and];exact a6
theorem Jz{ops:Array Oper}{r:aY}{Γ:Env}(hm:Mod r Γ){n:Nat}{env:List I}{h:J}{bc:np}:∀(l:List DStep),ek (AH P need ops Γ n env h bc l)->k9 P need ops r n env none h bc l=true
 |[],_=>rfl
 |s::rest,ag=>by
  simp only[AH] at ag
  obtain⟨aG,a9⟩:=ek.append ag
  simp only[k9]
  rw[Jz hm rest a9,Bool.and_true]
  cases ab:Nat.blt s.i n with
  |false=>rfl
  |true=>
   rw[ab] at aG
   cases ad:kindOf P s.o.op with
   |pure=>rw[ad] at aG;exact D8 hm bc none h aG
   |alloc=>rfl
   |eb=>rfl
theorem Sb{ops:Array Oper}{r:aY}{Γ:Env}(hm:Mod r Γ){cA:Nat}{s:DStep}{rest:List DStep}{st:jM}{hs:List Hint}{y:gZ (I×jM)}(aa:DX P need inR call ops Γ s rest st hs=.cL y)(ag:ek y.cs):
  gj P need inR call ops r cA (s::rest) st.env st.d st.q st.h st.bc=.b4 y.res.1 y.res.2.env y.res.2.d y.res.2.q y.res.2.h y.res.2.bc:=by
 unfold DX at aa
 split at aa
 · cases aa
 · rename_i aq
   have al:=AJ hm aq
   split at aa
   · cases aa
   · rename_i gd gv
     have ao:=D6 hm gv
     split at aa
     · rename_i g1
       split at aa
       · cases aa
       · rename_i ld
         simp only[gj,g1,ao]
         rw[s0 al]
         split at aa
         · rename_i v bf bj an jJ hN fE
           split at aa
           · rename_i eg
             cases aa
             have ab:=xW fE ag
             have g0:dL P inR call gd s.o (kS P need s.i st.env Γ s.loc) st.d st.q st.h=.b4 v bf bj an:=ab
             rw[g0]
             cases ch:st.bc with
             |nil=>simp only[eg]
             |cons a l=>
              obtain⟨e,m,ai⟩:=a
              rw[ch] at ld
              simp only[s8] at ld
              simp only[ld,eg]
           · cases aa
         · cases aa
     · cases aa
theorem JA{ops:Array Oper}{r:aY}{Γ:Env}(hm:Mod r Γ){cA:Nat}:∀(l:List DStep) (st:jM) (hs:List Hint) (y:gZ (I×jM)),AG P need inR call ops Γ cA l st hs=.cL y->ek y.cs->
  gj P need inR call ops r cA l st.env st.d st.q st.h st.bc=.b4 y.res.1 y.res.2.env y.res.2.d y.res.2.q y.res.2.h y.res.2.bc
 |[],st,hs,y,aa,ag=>by cases aa
 |s::rest,st,hs,y,aa,ag=>by
  simp only[AG] at aa
  split at aa
  · rename_i jg ab
    cases aa
    exact Sb hm ab ag
  · split at aa
    · rename_i st1 jJ hN ab
      split at aa
      · rename_i jN xX j2 ad
        cases aa
        obtain⟨aG,a9⟩:=ek.append ag
        rw[Jw hm ab aG rest]
        exact(JA hm rest st1 hN ⟨jN,xX,j2⟩ ad a9:)
      · cases aa
    · cases aa
theorem JB{ops:Array Oper}{r:aY}{Γ:Env}(hm:Mod r Γ){n:Nat}{env:List I}{last:Option Nat}{h:J}{bc:np}:∀(l:List DStep),ek (AI P need ops Γ n env last h bc l)->k9 P need ops r n env last h bc l=true
 |[],_=>rfl
 |s::rest,ag=>by
  simp only[AI] at ag
  obtain⟨aG,a9⟩:=ek.append ag
  simp only[k9]
  rw[JB hm rest a9,Bool.and_true]
  cases ab:Nat.blt s.i n with
  |false=>rfl
  |true=>
   rw[ab] at aG
   cases ad:kindOf P s.o.op with
   |pure=>rw[ad] at aG;exact D8 hm bc last h aG
   |alloc=>rfl
   |eb=>rfl
theorem Sc{id:Nat}{ops:Array Oper}{rd:Option Nat}{st:ah}{hs:List Hint}{y:gZ (bn×ah)}(aa:DZ P need rd.isSome call ops st hs=.cL y)(ag:ek y.cs):cZ P need rd call (.region id ops true) st y.res.1 y.res.2:=by
 unfold DZ at aa
 split at aa
 · rename_i v env d q h e m h0 bc jJ hN ao
   cases aa
   obtain⟨aG,a9⟩:=ek.append ag
   intro r hm
   have ab:=JA hm _ _ _ _ ao aG
   have ad:=JB hm _ a9
   simp only at ab
   refine⟨_,?_,D5 _ _ _ hm⟩
   have g0:gj P need rd.isSome call ops r st.h.n (e1 ops.toList 0 [] []) [] st.d st.q ⟨st.h.t,st.h.n+ops.size⟩ []=.b4 v env d q h ((e,m,h0)::bc):=ab
   simp only[du,ss,g0,ad,md]
 · cases aa
 · cases aa
theorem Sd{id:Nat}{ops:Array Oper}{rd:Option Nat}{st:ah}{hs:List Hint}{y:gZ (bn×ah)}(aa:D0 P need rd.isSome call ops st hs=.cL y)(ag:ek y.cs):cZ P need rd call (.region id ops true) st y.res.1 y.res.2:=by
 unfold D0 at aa
 split at aa
 · rename_i env d q h bc jJ hN ao
   cases aa
   obtain⟨aG,a9⟩:=ek.append ag
   intro r hm
   have ab:=Jx hm _ _ _ _ ao aG
   have ad:=Jz hm _ a9
   simp only at ab
   refine⟨_,?_,AK hm _ _ _ hm⟩
   have g0:gj P need rd.isSome call ops r st.h.n (e1 ops.toList 0 [] []) [] st.d st.q ⟨st.h.t,st.h.n+ops.size⟩ []=.ok env d q h bc:=ab
   simp only[du,ss,g0,ad,md]
 · exact Sc aa ag
variable {rd:Option Nat}
theorem o_:∀(c:Code) (st:ah) (hs:List Hint) (y:gZ (bn×ah)),lf P need rd call c st hs=.cL y->ek y.cs->cZ P need rd call c st y.res.1 y.res.2
 |.skip,st,hs,y,aa,ag=>by cases aa;exactλr ak=>⟨r,rfl,ak⟩
 |.label _,st,hs,y,aa,ag=>by cases aa;exactλr ak=>⟨r,rfl,ak⟩
 |.exit id,st,hs,y,aa,ag=>by cases aa;exactλr ak=>⟨r,rfl,ak⟩
 |.ret,st,hs,y,aa,ag=>by cases aa;exactλr ak=>⟨r,rfl,ak⟩
 |.scope b,st,hs,y,aa,ag=>o_ b st hs y aa ag
 |.region id ops draw,st,hs,y,aa,ag=>by
  simp only[lf] at aa
  cases draw with
  |true=>exact Sd aa ag
  |false=>
   simp only at aa
   split at aa
   · rename_i x jJ hN ch
     split at aa
     · rename_i r1 D9
       cases aa
       intro r ak
       have ab:=Jv ak _ _ _ _ _ _ _ ch ag
       simp only at ab
       simp only[du,ab]
       cases x with
       |ok env d q h=>cases D9;exact⟨_,rfl,AK ak _ _ _ ak⟩
       |b4 v d q h=>cases D9;exact⟨_,rfl,D5 _ _ _ ak⟩
       |fail w=>cases D9
     · cases aa
   · cases aa
 |.seq a b,st,hs,y,aa,ag=>by
  simp only[lf] at aa
  split at aa
  · rename_i st1 jJ hN aS
    split at aa
    · rename_i r2 xX j2 ae
      cases aa
      obtain⟨aG,a9⟩:=ek.append ag
      intro r ak
      obtain⟨r1,ab,a3⟩:=o_ a st hs _ aS aG r ak
      obtain⟨r2,ad,bS⟩:=o_ b st1 hN _ ae a9 r1 a3
      exact⟨r2,by simp only at ab ad;simp only[du,ab,pO,ad],bS⟩
    · cases aa
  · rename_i cV
    intro r ak
    obtain⟨r1,ab,a3⟩:=o_ a st hs y aa ag r ak
    refine⟨r1,?_,a3⟩
    simp only[du,ab]
    refine sR (λcH=>?_)
    obtain⟨⟨aA,st1⟩,jJ,hN⟩:=y
    simp only at cH
    subst cH
    exact cV _ _ _ aa
 |.cond c a b,st,hs,y,aa,ag=>by
  simp only[lf] at aa
  split at aa
  · rename_i x al
    split at aa
    · split at aa
      · rename_i r1 jJ hN aS
        cases aa
        obtain⟨rfl,aG⟩:=ag
        intro r ak
        obtain⟨r1,ab,a3⟩:=o_ a st _ _ aS aG r ak
        exact⟨r1,by simp only at ab;simp only[du,s_ ak al,ab],a3⟩
      · cases aa
    · split at aa
      · rename_i r1 jJ hN aS
        cases aa
        obtain⟨rfl,aG⟩:=ag
        intro r ak
        obtain⟨r1,ab,a3⟩:=o_ b st _ _ aS aG r ak
        exact⟨r1,by simp only at ab;simp only[du,s_ ak al,ab],a3⟩
      · cases aa
    · cases aa
  · cases aa
 |.block id b,st,hs,y,aa,ag=>by
  simp only[lf] at aa
  split at aa
  · rename_i i st1 jJ hN ae
    split at aa
    · rename_i af
      cases aa
      obtain rfl:=Nat.eq_of_beq_eq_true af
      intro r ak
      obtain⟨r1,ab,a3⟩:=o_ b st hs _ ae ag r ak
      exact⟨r1,by simp only at ab;simp only[du,ab,if_true],a3⟩
    · rename_i af
      cases aa
      intro r ak
      obtain⟨r1,ab,a3⟩:=o_ b st hs _ ae ag r ak
      have cV:¬i=id:=by intro cH;subst cH;simp at af
      exact⟨r1,by simp only at ab;simp only[du,ab,if_neg cV],a3⟩
  · rename_i cV
    intro r ak
    obtain⟨r1,ab,a3⟩:=o_ b st hs y aa ag r ak
    refine⟨r1,?_,a3⟩
    obtain⟨⟨aA,st1⟩,jJ,hN⟩:=y
    simp only at ab
    simp only[du,ab]
    cases aA<;>first|rfl|exact absurd aa (cV _ _ _ _)
 |.loop b,st,hs,y,aa,ag=>by
  simp only[lf] at aa
  split at aa
  · cases aa;exact ag.1
  · cases aa
 |.rangeFunc f ps as cf,st,hs,y,aa,ag=>by
  simp only[lf] at aa
  split at aa
  · cases aa;exact ag.1
  · cases aa
 |.goto _,st,hs,y,aa,ag=>by cases aa
 |.refuse _,st,hs,y,aa,ag=>by cases aa
end
end aM
namespace aM
theorem u9{z:Bool}(h:z=true):(Decidable.rec (motive:=λ_=>Bool) (λh=>(λx=>false) h) (λh=>(λx=>true) h) (instDecidableEqBool z false):Bool)=false:=by subst h;rfl
open Go
def sub:Code->List Nat->Code
 |c,[]=>c
 |.seq a _,0::l=>sub a l
 |.seq _ b,_::l=>sub b l
 |.cond _ a _,0::l=>sub a l
 |.cond _ _ b,_::l=>sub b l
 |.block _ b,_::l=>sub b l
 |.loop b,_::l=>sub b l
 |.scope b,_::l=>sub b l
 |.rangeFunc _ _ a _,0::l=>sub a l
 |.rangeFunc _ _ _ b,_::l=>sub b l
 |c,_::_=>c
def e3(fn:Func):Code:=fn.body.getD .skip
def cl:Env->Env->Prop
 |[],_=>True
 |(t,v)::l,Γ=>er t Γ=some v/\cl l Γ
theorem cl.ok:∀{Γ2 Γ:Env},cl Γ2 Γ->∀t v,er t Γ2=some v->er t Γ=some v
 |[],Γ,_,t,v,h=>by simp[er] at h
 |(u,x)::l,Γ,⟨ab,ad⟩,t,v,h=>by
  simp only[er] at h
  rcases s9 t u with⟨e,ae⟩|⟨e,ae⟩
  · rw[ae] at h;cases h;rw[e];exact ab
  · rw[ae] at h;exact cl.ok ad t v h
theorem Mod.sub{r:aY}{Γ Γ2:Env}(h:Mod r Γ)(hs:cl Γ2 Γ):Mod r Γ2:=λt v a_=>h t v (hs.ok t v a_)
section
variable {P:Program} {need:Nat} {rd:Option Nat} {call:aI->List I->J->av}
def D_(ck:List Nat):kR (gZ (bn×ah))->Option (gZ (bn×ah))
 |.cL ⟨(e,⟨Γ,d,q,h⟩),cs,[]⟩=>some ⟨(e,⟨my Γ ck,d,q,h⟩),cs,[]⟩
 |_=>none
theorem Se{c:Code}{st:ah}{hs:List Hint}{e:bn}{bZ:ah}{cs:List Prop}(ck:List Nat)(aa:D_ ck (lf P need rd call c st hs)=some ⟨(e,bZ),cs,[]⟩)(ag:ek cs):cZ P need rd call c st e bZ:=by
 unfold D_ at aa
 split at aa
 · rename_i aA hh d1 ba ab jJ Sf
   cases aa
   intro r ak
   obtain⟨r1,ab,a3⟩:=o_ c st hs _ Sf ag r ak
   exact⟨r1,ab,a3.my ck⟩
 · cases aa
theorem cZ.pre{c:Code}{st st1 bZ:ah}{e:bn}(h:cZ P need rd call c st e bZ)(hs:cl st.Γ st1.Γ)(ao:st1.d=st.d)(aT:st1.q=st.q)(ai:st1.h=st.h):cZ P need rd call c st1 e bZ:=by
 intro r ak
 obtain⟨r1,ab,a3⟩:=h r (ak.sub hs)
 exact⟨r1,by rw[ao,aT,ai];exact ab,a3⟩
theorem cZ.post{c:Code}{st bZ:ah}{Γ2:Env}{e:bn}(h:cZ P need rd call c st e bZ)(hs:cl Γ2 bZ.Γ):cZ P need rd call c st e {bZ with Γ:=Γ2}:=by
 intro r ak
 obtain⟨r1,ab,a3⟩:=h r ak
 exact⟨r1,ab,a3.sub hs⟩
def oa(P:Program)(need:Nat)(rd:Option Nat)(call:aI->List I->J->av)(b:Code)(n:Nat)(st:ah)(e:bn)(bZ:ah):Prop:=
 ∀r,Mod r st.Γ->∃r',oR (du P need rd call b) n r st.d st.q st.h=.ok e r' bZ.d bZ.q bZ.h/\Mod r' bZ.Γ
theorem oa.step{b:Code}{n:Nat}{st st1 bZ:ah}{e:bn}(h:cZ P need rd call b st .nrm st1)(ad:oa P need rd call b n st1 e bZ):oa P need rd call b (n+1) st e bZ:=by
 intro r ak
 obtain⟨r1,aA,a3⟩:=h r ak
 obtain⟨r2,ay,bS⟩:=ad r1 a3
 exact⟨r2,by simp only[oR,aA,pO,ay],bS⟩
theorem oa.exit{b:Code}{n:Nat}{st bZ:ah}{e:bn}(h:cZ P need rd call b st e bZ)(he:e≠ .nrm):oa P need rd call b (n+1) st e bZ:=by
 intro r ak
 obtain⟨r1,aA,a3⟩:=h r ak
 exact⟨r1,by simp only[oR,aA];exact sR he,a3⟩
theorem Ea{f:aY->List bQ->bD->J->jq}:∀{n m:Nat},n<=m->∀{r d q h e r' bf bj an},oR f n r d q h=.ok e r' bf bj an->oR f m r d q h=.ok e r' bf bj an
 |0,_,_,_,_,_,_,_,_,_,_,_,h=>by cases h
 |n+1,0,hle,_,_,_,_,_,_,_,_,_,_=>by omega
 |n+1,m+1,hle,r,d,q,h,e,r',bf,bj,an,aa=>by
  simp only[oR] at aa⊢
  cases hf:f r d q h with
  |fail w=>rw[hf] at aa;cases aa
  |ok aA r1 d1 ba ab=>
   rw[hf] at aa
   cases aA<;>simp only[pO] at aa⊢ <;>first|exact Ea (by omega) aa|exact aa
theorem oa.run{b:Code}{n:Nat}{st bZ:ah}{e:bn}(h:oa P need rd call b n st e bZ)(aK:n<=100000):cZ P need rd call (.loop b) st e bZ:=by
 intro r ak
 obtain⟨r1,aA,a3⟩:=h r ak
 exact⟨r1,by simp only[du];exact Ea aK aA,a3⟩
def nq:Nat->List I->Env
 |_,[]=>[]
 |i,v::l=>(i,v)::nq (i+1) l
theorem JC(t:Nat)(v:I):∀(l:List I) (i:Nat),er t (nq i l)=some v->i<=t/\t<i+l.length/\l[t-i]? =some v
 |[],i,h=>by simp[nq,er] at h
 |x::l,i,h=>by
  simp only[nq,er] at h
  rcases s9 t i with⟨e,ae⟩|⟨e,ae⟩
  · rw[ae] at h;cases h;subst e;simp
  · rw[ae] at h
    obtain⟨ab,ad,ar⟩:=JC t v l (i+1) h
    refine⟨by omega,by simp;omega,?_⟩
    have:t-i=(t-(i+1))+1:=by omega
    rw[this];simpa using ar
theorem AN(args:List I):Mod (m3 0 args .leaf) (nq 0 args):=by
 intro t v h
 obtain⟨ab,ad,ar⟩:=JC t v args 0 h
 rw[Dg,if_pos ⟨ab,ad⟩,ar];rfl
def ev(P:Program)(need:Nat)(Γ:Env)(h:J)(x:ResultVar):Option I:=
 match x with
 |.tmp t=>match Nat.testBit need t with
  |true=>er t Γ
  |false=>none
 |.cell t ty=>match Nat.testBit need t with
  |true=>match er t Γ with
   |none=>none
   |some p=>match p,pK P ty,dh P ty with
    |.ptr b off,some true,some n=>(match loadCells h b off n with|some cs=>some (.agg cs)|none=>none)
    |.ptr b off,some false,_=>au h b off
    |_,_,_=>none
  |false=>none
theorem Sg{Γ:Env}{r:aY}(hm:Mod r Γ){h:J}{x:ResultVar}{v:I}(aa:ev P need Γ h x=some v):qR P need r h x=some v:=by
 cases x with
 |tmp t=>
  simp only[ev,qR] at aa⊢
  split at aa
  · rename_i ae
    rw[ae];simp only[hm t v aa]
  · cases aa
 |cell t ty=>
  simp only[ev,qR] at aa⊢
  split at aa
  · rename_i ae
    rw[ae]
    simp only
    cases aw:er t Γ with
    |none=>rw[aw] at aa;simp at aa
    |some p=>rw[aw] at aa;rw[hm t p aw];exact aa
  · cases aa
def rC(P:Program)(need:Nat)(fn:Func)(Γ:Env)(h:J):Option I:=
 match oS (ev P need Γ h) fn.results.toList with
 |some [v]=>some v
 |some vs=>some (.aP vs)
 |none=>none
theorem JD{Γ:Env}{r:aY}(hm:Mod r Γ){h:J}:∀(l:List ResultVar) (vs:List I),oS (ev P need Γ h) l=some vs->oS (qR P need r h) l=some vs
 |[],vs,aa=>aa
 |x::l,vs,aa=>by
  simp only[oS] at aa⊢
  cases ab:ev P need Γ h x with
  |none=>rw[ab] at aa;simp at aa
  |some v=>
   rw[ab] at aa
   cases ad:oS (ev P need Γ h) l with
   |none=>rw[ad] at aa;simp at aa
   |some ws=>
    rw[ad] at aa
    rw[Sg hm ab,JD hm l ws ad];exact aa
theorem Eb{Γ:Env}{r:aY}(hm:Mod r Γ){h:J}{fn:Func}{v:I}(aa:rC P need fn Γ h=some v):pP P need fn r h=some v:=by
 unfold rC at aa
 unfold pP
 cases aS:oS (ev P need Γ h) fn.results.toList with
 |none=>rw[aS] at aa;cases aa
 |some vs=>
  rw[aS] at aa
  rw[JD hm _ _ aS];exact aa
variable {intr:Nat->List I->J->Option (I×J)}
theorem Sh{f:Nat}{fn:Func}{c:Code}{n:Nat}{args:List I}{h:J}(hf:P.funcs[f]? =some fn)(ae:fn.body=some c)(aK:dG fn=need)(af:intr f args h=none)(hle:Nat.ble args.length fn.ntmps=true)
  {e:bn}{Γ:Env}{q:bD}{an:J}(eP:cZ P need none (e6 P intr n) c ⟨nq 0 args,[],.none,h⟩ e ⟨Γ,[],q,an⟩)(he:e=.ret\/e=.nrm){v:I}(iO:rC P need fn Γ an=some v):
  e6 P intr (n+1) (.fn f) args h=.ret v an:=by
 subst aK
 obtain⟨r1,ab,a3⟩:=eP _ (AN args)
 have ak:=Eb a3 iO
 simp only[e6,af,pQ,hf,ae,me,hle,ab]
 rcases he with rfl|rfl<;>simp only[oT,i_,ak]
theorem Si{f:Nat}{fn:Func}{c:Code}{n:Nat}{args:List I}{h:J}(hf:P.funcs[f]? =some fn)(ae:fn.body=some c)(aK:dG fn=need)(af:intr f args h=none)(hle:Nat.ble args.length fn.ntmps=true)
  {v:I}{Γ:Env}{q:bD}{an:J}(eP:cZ P need none (e6 P intr n) c ⟨nq 0 args,[],.none,h⟩ (.b4 v) ⟨Γ,[],q,an⟩):
  e6 P intr (n+1) (.fn f) args h=.b4 v an:=by
 subst aK
 obtain⟨r1,ab,a3⟩:=eP _ (AN args)
 simp only[e6,af,pQ,hf,ae,me,hle,ab,oT,i_]
abbrev aH(P:Program)(fn:Func)(rd:Option Nat)(call:aI->List I->J->av)(path:List Nat)(st:ah)(e:bn)(bZ:ah):Prop:=cZ P (dG fn) rd call (sub (e3 fn) path) st e bZ
abbrev Sj(P:Program)(fn:Func)(rd:Option Nat)(call:aI->List I->J->av)(path:List Nat)(st:ah)(hs:List Hint):kR (gZ (bn×ah)):=lf P (dG fn) rd call (sub (e3 fn) path) st hs
theorem bF{fn:Func}{path:List Nat}{st:ah}{hs:List Hint}{e:bn}{bZ:ah}{cs:List Prop}(ck:List Nat)(aa:D_ ck (Sj P fn rd call path st hs)=some ⟨(e,bZ),cs,[]⟩)(ag:ek cs):aH P fn rd call path st e bZ:=Se ck aa ag
end
end aM
namespace aM
open Go
theorem JE:∀(c:Code) (x:Nat) (l:List Nat),sub c (x::l)=sub (sub c [x]) l
 |.seq a b,0,l=>by simp[sub]
 |.seq a b,_+1,l=>by simp[sub]
 |.cond _ a b,0,l=>by simp[sub]
 |.cond _ a b,_+1,l=>by simp[sub]
 |.rangeFunc _ _ a b,0,l=>by simp[sub]
 |.rangeFunc _ _ a b,_+1,l=>by simp[sub]
 |.block _ b,x,l=>by simp[sub]
 |.loop b,x,l=>by simp[sub]
 |.scope b,x,l=>by simp[sub]
 |.skip,x,l=>by cases l<;>simp[sub]
 |.region _ _ _,x,l=>by cases l<;>simp[sub]
 |.exit _,x,l=>by cases l<;>simp[sub]
 |.ret,x,l=>by cases l<;>simp[sub]
 |.label _,x,l=>by cases l<;>simp[sub]
 |.goto _,x,l=>by cases l<;>simp[sub]
 |.refuse _,x,l=>by cases l<;>simp[sub]
theorem jh(c:Code):∀(p l:List Nat),sub c (p++l)=sub (sub c p) l
 |[],l=>by simp[sub]
 |x::p,l=>by rw[List.cons_append,JE,jh (sub c [x]) p l,<-JE]
def td:Code->Bool
 |.seq _ _=>true
 |_=>false
def u_(id:Nat):Code->Bool
 |.block i _=>Nat.beq i id
 |_=>false
def xZ:Code->Bool
 |.loop _=>true
 |_=>false
theorem AO{c:Code}(h:td c=true):c=.seq (sub c [0]) (sub c [1]):=by
 cases c<;>simp[td,sub] at h⊢
theorem AP{c:Code}{id:Nat}(h:u_ id c=true):c=.block id (sub c [0]):=by
 cases c<;>simp only[u_] at h<;>(try (cases h;done))
 obtain rfl:=Nat.eq_of_beq_eq_true h
 simp[sub]
theorem JF{c:Code}(h:xZ c=true):c=.loop (sub c [0]):=by
 cases c<;>simp[xZ,sub] at h⊢
section
variable {P:Program} {rd:Option Nat} {call:aI->List I->J->av} {fn:Func}
theorem cZ.seq{need:Nat}{a b:Code}{st st1 ko:ah}{e:bn}(ab:cZ P need rd call a st .nrm st1)(ad:cZ P need rd call b st1 e ko):cZ P need rd call (.seq a b) st e ko:=by
 intro r ak
 obtain⟨r1,aA,a3⟩:=ab r ak
 obtain⟨r2,ay,bS⟩:=ad r1 a3
 exact⟨r2,by simp only[du,aA,pO,ay],bS⟩
theorem cZ.iD{need:Nat}{a b:Code}{st st1:ah}{e:bn}(ab:cZ P need rd call a st e st1)(he:e≠ .nrm):cZ P need rd call (.seq a b) st e st1:=by
 intro r ak
 obtain⟨r1,aA,a3⟩:=ab r ak
 exact⟨r1,by simp only[du,aA];exact sR he,a3⟩
theorem cZ.block{need:Nat}{id:Nat}{b:Code}{st st1:ah}(ab:cZ P need rd call b st (.exit id) st1):cZ P need rd call (.block id b) st .nrm st1:=by
 intro r ak
 obtain⟨r1,aA,a3⟩:=ab r ak
 exact⟨r1,by simp only[du,aA,if_true],a3⟩
theorem cZ.te{need:Nat}{id:Nat}{b:Code}{st st1:ah}{e:bn}(ab:cZ P need rd call b st e st1)(he:e≠ .exit id):cZ P need rd call (.block id b) st e st1:=by
 intro r ak
 obtain⟨r1,aA,a3⟩:=ab r ak
 refine⟨r1,?_,a3⟩
 simp only[du,aA]
 cases e<;>first|rfl|(rename_i i;exact if_neg λh=>he (by rw[h]))
theorem aH.seq{p:List Nat}{st st1 ko:ah}{e:bn}(hs:td (sub (e3 fn) p)=true)(ab:aH P fn rd call (p++[0]) st .nrm st1)(ad:aH P fn rd call (p++[1]) st1 e ko):aH P fn rd call p st e ko:=by
 unfold aH at*
 rw[AO hs]
 rw[jh] at ab ad
 exact ab.seq ad
theorem aH.iD{p:List Nat}{st st1:ah}{e:bn}(hs:td (sub (e3 fn) p)=true)(ab:aH P fn rd call (p++[0]) st e st1)(he:e≠ .nrm):aH P fn rd call p st e st1:=by
 unfold aH at*
 rw[AO hs]
 rw[jh] at ab
 exact ab.iD he
theorem aH.block{p:List Nat}{id:Nat}{st st1:ah}(hs:u_ id (sub (e3 fn) p)=true)(ab:aH P fn rd call (p++[0]) st (.exit id) st1):aH P fn rd call p st .nrm st1:=by
 unfold aH at*
 rw[AP hs]
 rw[jh] at ab
 exact ab.block
theorem aH.te{p:List Nat}{id:Nat}{st st1:ah}{e:bn}(hs:u_ id (sub (e3 fn) p)=true)(ab:aH P fn rd call (p++[0]) st e st1)(he:e≠ .exit id):aH P fn rd call p st e st1:=by
 unfold aH at*
 rw[AP hs]
 rw[jh] at ab
 exact ab.te he
def ft(P:Program)(fn:Func)(rd:Option Nat)(call:aI->List I->J->av)(p:List Nat)(n:Nat)(st:ah)(e:bn)(bZ:ah):Prop:=oa P (dG fn) rd call (sub (e3 fn) (p++[0])) n st e bZ
theorem ft.step{p:List Nat}{n:Nat}{st st1 bZ:ah}{e:bn}(h:aH P fn rd call (p++[0]) st .nrm st1)(ad:ft P fn rd call p n st1 e bZ):ft P fn rd call p (n+1) st e bZ:=oa.step h ad
theorem ft.exit{p:List Nat}{n:Nat}{st bZ:ah}{e:bn}(h:aH P fn rd call (p++[0]) st e bZ)(he:e≠ .nrm):ft P fn rd call p (n+1) st e bZ:=oa.exit h he
theorem ft.run{p:List Nat}{n:Nat}{st bZ:ah}{e:bn}(hs:xZ (sub (e3 fn) p)=true)(h:ft P fn rd call p n st e bZ)(aK:n<=100000):aH P fn rd call p st e bZ:=by
 unfold aH
 rw[JF hs]
 unfold ft at h
 rw[jh] at h
 exact oa.run h aK
theorem eK{intr:Nat->List I->J->Option (I×J)}{f:Nat}{n:Nat}{args:List I}{h:J}(hf:P.funcs[f]? =some fn)(ae:fn.body.isSome=true)(af:intr f args h=none)(hle:Nat.ble args.length fn.ntmps=true)
  {e:bn}{Γ:Env}{q:bD}{an:J}(eP:aH P fn none (e6 P intr n) [] ⟨nq 0 args,[],.none,h⟩ e ⟨Γ,[],q,an⟩)(he:e=.ret\/e=.nrm){v:I}(iO:rC P (dG fn) fn Γ an=some v):
  e6 P intr (n+1) (.fn f) args h=.ret v an:=by
 obtain⟨c,ag⟩:=Option.isSome_iff_exists.1 ae
 have qk:e3 fn=c:=by simp[e3,ag]
 unfold aH at eP
 rw[qk] at eP
 simp only[sub] at eP
 exact Sh hf ag rfl af hle eP he iO
theorem Sk{intr:Nat->List I->J->Option (I×J)}{f:Nat}{n:Nat}{args:List I}{h:J}(hf:P.funcs[f]? =some fn)(ae:fn.body.isSome=true)(af:intr f args h=none)(hle:Nat.ble args.length fn.ntmps=true)
  {v:I}{Γ:Env}{q:bD}{an:J}(eP:aH P fn none (e6 P intr n) [] ⟨nq 0 args,[],.none,h⟩ (.b4 v) ⟨Γ,[],q,an⟩):e6 P intr (n+1) (.fn f) args h=.b4 v an:=by
 obtain⟨c,ag⟩:=Option.isSome_iff_exists.1 ae
 have qk:e3 fn=c:=by simp[e3,ag]
 unfold aH at eP
 rw[qk] at eP
 simp only[sub] at eP
 exact Si hf ag rfl af hle eP
theorem j3{i m:Nat}(af:i<m)(hm:m<=1000000000000):arith BinOp.add IntKind.i64 (Int.ofNat i) (Int.ofNat 1)=some (I.int IntKind.i64 (Int.ofNat (i+1))):=by
 have h:=q2 (i+1) (by omega)
 have e:Int.ofNat i+Int.ofNat 1=((i+1:Nat):Int):=rfl
 simp only[arith,e,h];rfl
theorem dS{a b:Nat}(h:a<b):bM (Int.ofNat a) (Int.ofNat b)=true:=by simp[bM];omega
theorem eW{a b:Nat}(h:¬a<b):bM (Int.ofNat a) (Int.ofNat b)=false:=by simp[bM];omega
theorem nr{s:List UInt8}{i:Nat}(h:i<s.length):gH i s=some (.int .u8 (Int.ofNat (s[i]).toNat)):=by
 unfold gH
 rw[pU,List.getElem?_eq_getElem h]
end
end aM
namespace aM
open Go
structure Ext(B:Nat)(h an:J):Prop where
 n:h.n<=an.n
 get:∀b,b<B->an.get b=h.get b
theorem Ext.refl(B:Nat)(h:J):Ext B h h:=⟨Nat.le_refl _,λ_ _=>rfl⟩
theorem Ext.trans{B lS:Nat}{h ab ad:J}(cM:B<=lS)(e:Ext B h ab)(cH:Ext lS ab ad):Ext B h ad:=⟨Nat.le_trans e.n cH.n,λb ae=>(cH.get b (Nat.lt_of_lt_of_le ae cM)).trans (e.get b ae)⟩
theorem Ext.push{B:Nat}{h:J}(cM:B<=h.n)(o:da):Ext B h (h.push o):=⟨by simp,λb ae=>by rw[J.gk,if_neg (by omega)]⟩
theorem Ext.set{B:Nat}{h:J}{b:Nat}(ae:B<=b)(o:Option da):Ext B h (h.set b o):=⟨by simp,λc ag=>by rw[J.cR,if_neg (by omega)]⟩
theorem Ext.room(B:Nat)(h:J)(k:Nat):Ext B h (h.room k):=⟨by simp,λ_ _=>rfl⟩
theorem AQ:∀(l m:List I),takeN l.length (l++m)=some l
 |[],m=>rfl
 |a::l,m=>by simp[takeN,AQ l m]
theorem Ec{h:J}{b e aN af:Nat}{k:gE}{xs rest:List I}(al:h.get b=some (.cells (xs++rest) e k aN af)):loadCells h b 0 xs.length=some xs:=by
 simp[loadCells,al,jn,AQ]
section
variable {P:Program}
theorem va{h:J}{e bytes size need:Nat}{z:I}{cs:List I}{fz:Nat}(ab:kI need bytes=true)(ad:Nat.beq z.cells.length size=true)(ar:cs.all I.cQ=true):kh h e bytes size need z cs fz=some (.slice h.n 0 need (.a1 size),h.push (.cells cs e .a1 0 fz)):=by
 unfold kh
 rw[ab,ad,ar];rfl
theorem JG{h:J}{t:TypeId}{s:List UInt8}{af:Nat}{ea:IntKind}(hu:P.underlying t=some .string)(ad:af<=s.length):
  de P h t (.str s) none (some (.int ea (Int.ofNat af))) none=some (.str (s.take af)):=by
 have bt:Nat.ble s.length s.length=true:=by simp
 have bH:Nat.ble af s.length=true:=by simpa using ad
 have ej:Nat.ble 0 af=true:=by simp
 simp only[de,hu,bounds,g8,eC,bt,bH,ej,m5,List.drop_zero,Nat.sub_zero]
theorem Sl{h:J}{t:TypeId}{s:List UInt8}{aN:Nat}{k:IntKind}(hu:P.underlying t=some .string)(ad:aN<=s.length):
  de P h t (.str s) (some (.int k (Int.ofNat aN))) none none=some (.str (s.drop aN)):=by
 have bt:Nat.ble s.length s.length=true:=by simp
 have bH:Nat.ble aN s.length=true:=by simpa using ad
 simp only[de,hu,bounds,g8,eC,bt,bH,m5]
 rw[List.take_of_length_le (by simp)]
theorem hy{x y:List UInt8}(h:x.length+y.length<=1000000000000):gA .add x y=some (.str (x++y)):=by
 have:¬(((x.length+y.length:Nat):Int)>IntKind.i64.max):=by
  have e:IntKind.i64.max=9223372036854775807:=rfl
  rw[e];omega
 simp only[gA,if_neg this]
end
end aM
namespace aM
open Go
variable {P:Program} {call:aI->List I->J->av}
def Sm(l:Nat)(e:bn)(need:Nat)(r:aY)(ps:List Nat)(as cf:Code)(eD:Nat)(h:J):av:=match e with
 |.nrm=>.ret (.bool true) (h.set l (some (.loop .ready none need r ps as cf eD)))
 |.ret=>.ret (.bool false) (h.set l (some (.loop .done (some .ret) need r ps as cf eD)))
 |.exit id=>.ret (.bool false) (h.set l (some (.loop .done (some (.exit id)) need r ps as cf eD)))
 |.b4 v=>.b4 v h
 |.goto _=>.fail "goto in a round"
theorem JH{l need t eD:Nat}{Γ hh Γ2:Env}{as cf:Code}{v:I}{h ad:J}{q a7:bD}{e:bn}{r:aY}
  (al:h.get l=some (.loop .ready none need r [t] as cf eD))(hm:Mod r Γ)
  (aS:cZ P need (some l) call as ⟨put t v Γ,[],.none,h⟩ .nrm ⟨hh,[],q,h⟩)
  (ae:cZ P need (some l) call cf ⟨hh,[],.none,h.set l (some (.loop .busy none need r [t] as cf eD))⟩ e ⟨Γ2,[],a7,ad⟩)
  (aq:ad.get l=some (.loop .busy none need r [t] as cf eD)):
  su P call l [v] h=Sm l e need r [t] as cf eD ad:=by
 obtain⟨r1,aA,a3⟩:=aS _ (hm.put t v)
 obtain⟨r2,ay,bS⟩:=ae _ a3
 simp only at aA ay
 simp only[su,al,uv,aA,Cs,ay]
 simp only[wR,aq]
 cases e<;>rfl
theorem nt{h:J}{b t:Nat}{x:I}(al:h.get b=some (.cells [x] t .own 0 0)):au h b 0=some x:=by
 simp only[au,al];rfl
theorem AR{h:J}{b t:Nat}{x y:I}(aW:y.cQ=true)(al:h.get b=some (.cells [x] t .own 0 0)):aM.storeCells h b 0 [y]=some (h.set b (some (.cells [y] t .own 0 0))):=by
 have hw:kH .own 0 0 0 [y].length=true:=rfl
 simp only[aM.storeCells,al,hw,fN,aW]
end aM
namespace aM
open Go
def W(P:Program)(need:Nat)(rd:Option Nat)(call:aI->List I->J->av)(c:Code)(Q:bn->aY->List bQ->bD->J->Prop)(r:aY)(d:List bQ)(q:bD)(h:J):Prop:=
 ∃e r' bf bj an,du P need rd call c r d q h=.ok e r' bf bj an/\Q e r' bf bj an
section
variable {P:Program} {need:Nat} {rd:Option Nat} {call:aI->List I->J->av} {fn:Func}
theorem W.of{c:Code}{Q:bn->aY->List bQ->bD->J->Prop}{r:aY}{st bZ:ah}{e:bn}(ak:cZ P need rd call c st e bZ)(hm:Mod r st.Γ)(k:∀r',Mod r' bZ.Γ->Q e r' bZ.d bZ.q bZ.h):W P need rd call c Q r st.d st.q st.h:=by
 obtain⟨r',ab,ad⟩:=ak r hm
 exact⟨e,r',_,_,_,ab,k r' ad⟩
theorem W.seq{a b:Code}{Q:bn->aY->List bQ->bD->J->Prop}{r:aY}{d:List bQ}{q:bD}{h:J}
  (hw:W P need rd call a (λe r d q h=>(e=.nrm/\W P need rd call b Q r d q h)\/(e≠ .nrm/\Q e r d q h)) r d q h):W P need rd call (.seq a b) Q r d q h:=by
 obtain⟨e,r1,d1,ba,ab,ad,ar⟩:=hw
 rcases ar with⟨rfl,ay,r2,d2,a7,aJ,bO,cj⟩|⟨cV,aT⟩
 · exact⟨ay,r2,d2,a7,aJ,by simp only[du,ad,pO,bO],cj⟩
 · exact⟨e,r1,d1,ba,ab,by simp only[du,ad];exact sR cV,aT⟩
theorem W.block{id:Nat}{b:Code}{Q:bn->aY->List bQ->bD->J->Prop}{r:aY}{d:List bQ}{q:bD}{h:J}
  (hw:W P need rd call b (λe r d q h=>(e=.exit id/\Q .nrm r d q h)\/(e≠ .exit id/\Q e r d q h)) r d q h):W P need rd call (.block id b) Q r d q h:=by
 obtain⟨e,r1,d1,ba,ab,ad,ar⟩:=hw
 rcases ar with⟨rfl,aT⟩|⟨cV,aT⟩
 · exact⟨.nrm,r1,d1,ba,ab,by simp only[du,ad,if_true],aT⟩
 · refine⟨e,r1,d1,ba,ab,?_,aT⟩
   simp only[du,ad]
   cases e<;>first|rfl|(rename_i i;exact if_neg λh=>cV (by rw[h]))
abbrev WF(P:Program)(fn:Func)(rd:Option Nat)(call:aI->List I->J->av)(path:List Nat):=W P (dG fn) rd call (sub (e3 fn) path)
theorem WF.seq{p:List Nat}{Q:bn->aY->List bQ->bD->J->Prop}{r:aY}{d:List bQ}{q:bD}{h:J}(hs:td (sub (e3 fn) p)=true)
  (hw:WF P fn rd call (p++[0]) (λe r d q h=>(e=.nrm/\WF P fn rd call (p++[1]) Q r d q h)\/(e≠ .nrm/\Q e r d q h)) r d q h):WF P fn rd call p Q r d q h:=by
 unfold WF at*
 rw[AO hs]
 rw[jh,jh] at hw
 exact hw.seq
theorem WF.block{p:List Nat}{id:Nat}{Q:bn->aY->List bQ->bD->J->Prop}{r:aY}{d:List bQ}{q:bD}{h:J}(hs:u_ id (sub (e3 fn) p)=true)
  (hw:WF P fn rd call (p++[0]) (λe r d q h=>(e=.exit id/\Q .nrm r d q h)\/(e≠ .exit id/\Q e r d q h)) r d q h):WF P fn rd call p Q r d q h:=by
 unfold WF at*
 rw[AP hs]
 rw[jh] at hw
 exact hw.block
def Ed(f:Operand)(ps:List Nat):Code->Bool
 |.rangeFunc (.tmp g) dM _ _=>(match f with|.tmp t=>Nat.beq g t|_=>false)&&dM.toList==ps
 |_=>false
theorem Sn{c:Code}{t:Nat}{ps:List Nat}(h:Ed (.tmp t) ps c=true):∃dM:Array Nat,dM.toList=ps/\c=.rangeFunc (.tmp t) dM (sub c [0]) (sub c [1]):=by
 unfold Ed at h
 split at h
 · rename_i g dM a b
   simp only[Bool.and_eq_true] at h
   obtain⟨ab,ad⟩:=h
   obtain rfl:=Nat.eq_of_beq_eq_true ab
   exact⟨dM,eq_of_beq ad,by simp[sub]⟩
 · cases h
theorem W.range{f:Operand}{ps:Array Nat}{as cf:Code}{Γ:Env}{Q:bn->aY->List bQ->bD->J->Prop}{r:aY}{d:List bQ}{q:bD}{h:J}{g:Nat}{aR:List I}
  (hf:nn 0 [] Γ (cE P need [] f)=some (.fn g [] aR))(hm:Mod r Γ)
  (ag:∃e an,m2 (h.n+1) r (.collected h.n::d) q (call (.fn g) (.dd (h.n+1)::aR) ((h.push (.defrd (some []))).push (.loop .ready none need r ps.toList as cf h.n)))=.ok e r (.collected h.n::d) q an/\Q e r (.collected h.n::d) q an):
  W P need none call (.rangeFunc f ps as cf) Q r d q h:=by
 obtain⟨e,an,aG,a9⟩:=ag
 refine⟨e,r,_,q,an,?_,a9⟩
 have al:=s_ hm hf
 rw[<-aG]
 simp only[du,wP,al,sr,nQ]
 rfl
theorem WF.range{p:List Nat}{t:Nat}{ps:List Nat}{Γ:Env}{Q:bn->aY->List bQ->bD->J->Prop}{r:aY}{d:List bQ}{q:bD}{h:J}{g:Nat}{aR:List I}(hs:Ed (.tmp t) ps (sub (e3 fn) p)=true)
  (aK:Nat.testBit (dG fn) t=true)(hf:er t Γ=some (.fn g [] aR))(hm:Mod r Γ)
  (ag:∃e an,m2 (h.n+1) r (.collected h.n::d) q (call (.fn g) (.dd (h.n+1)::aR) ((h.push (.defrd (some []))).push (.loop .ready none (dG fn) r ps (sub (e3 fn) (p++[0])) (sub (e3 fn) (p++[1])) h.n)))=.ok e r (.collected h.n::d) q an/\Q e r (.collected h.n::d) q an):
  WF P fn none call p Q r d q h:=by
 obtain⟨dM,aT,he⟩:=Sn hs
 unfold WF
 rw[jh,jh] at ag
 rw[he]
 subst aT
 refine W.range (Γ:=Γ) ?_ hm ag
 have:cE P (dG fn) [] (.tmp t)=.reg (gU t):=by
  unfold cE
  simp only[hX,aK]
 rw[this]
 show er (gU t).num Γ=_
 rw[zE];exact hf
theorem So{intr:Nat->List I->J->Option (I×J)}{f:Nat}{n:Nat}{args:List I}{h:J}{X:av}(hf:P.funcs[f]? =some fn)(ae:fn.body.isSome=true)(af:intr f args h=none)(hle:Nat.ble args.length fn.ntmps=true)
  (hw:WF P fn none (e6 P intr n) [] (λe r d q an=>oT P (e6 P intr n) fn (.ok e r d q an)=X) (m3 0 args .leaf) [] .none h):e6 P intr (n+1) (.fn f) args h=X:=by
 obtain⟨c,ag⟩:=Option.isSome_iff_exists.1 ae
 have qk:e3 fn=c:=by simp[e3,ag]
 obtain⟨e,r,d,q,an,ab,ad⟩:=hw
 rw[qk] at ab
 simp only[sub] at ab
 simp only[e6,af,pQ,hf,ag,me,hle,ab,ad]
end
end aM
namespace aM
open Go
theorem tf:∀l:List UInt8,(c8 l).length=l.length
 |[]=>rfl
 |a::l=>by simp[c8,tf l]
theorem AS:∀l m:List UInt8,c8 (l++m)=c8 l++c8 m
 |[],m=>rfl
 |a::l,m=>by simp[c8,AS l m]
theorem AT:∀l:List UInt8,(c8 l).all I.cQ=true
 |[]=>rfl
 |a::l=>by rw[c8,List.all_cons,AT l];rfl
theorem Ee:∀l:List UInt8,m0 (c8 l)=some l
 |[]=>rfl
 |a::l=>by
  have ab:Nat.blt a.toNat 256=true:=by have:=UInt8.toNat_lt a;simp[Nat.blt];omega
  simp only[c8,m0,Ee l,ab,UInt8.ofNat_toNat]
theorem Ef:∀(xs ys:List I),xs.all I.cQ=true->xs.length<=ys.length->fN 0 xs ys=some (xs++ys.drop xs.length)
 |[],ys,_,_=>by cases ys<;>simp[fN]
 |x::xs,[],_,h=>by simp at h
 |x::xs,y::ys,aa,h=>by
  simp only[List.all_cons,Bool.and_eq_true] at aa
  have a6:=Ef xs ys aa.2 (by simpa using h)
  simp[fN,aa.1,a6]
theorem x0:∀(l xs ys:List I),xs.all I.cQ=true->xs.length<=ys.length->fN l.length xs (l++ys)=some (l++(xs++ys.drop xs.length))
 |[],xs,ys,aa,h=>by simpa using Ef xs ys aa h
 |a::l,[],ys,aa,h=>by simp[fN]
 |a::l,x::xs,ys,aa,h=>by
  have a6:=x0 l (x::xs) ys aa h
  simp only[List.length_cons,List.cons_append,fN] at a6⊢
  rw[a6]
theorem Sp{i j:Nat}(h:i+j<9223372036854775808):arith BinOp.add IntKind.i64 (Int.ofNat i) (Int.ofNat j)=some (I.int IntKind.i64 (Int.ofNat (i+j))):=by
 have h:=q2 (i+j) h
 have e:Int.ofNat i+Int.ofNat j=((i+j:Nat):Int):=rfl
 simp only[arith,e,h];rfl
theorem vb{i j:Nat}(aL:j<=i)(h:i<9223372036854775808):arith BinOp.sub IntKind.i64 (Int.ofNat i) (Int.ofNat j)=some (I.int IntKind.i64 (Int.ofNat (i-j))):=by
 have h:=q2 (i-j) (by omega)
 have e:Int.ofNat i-Int.ofNat j=((i-j:Nat):Int):=by
  have aA:Int.ofNat i=(i:Int):=rfl
  have ay:Int.ofNat j=(j:Int):=rfl
  rw[aA,ay];omega
 simp only[arith,e,h];rfl
theorem Sq{i j:Nat}(h:i*j<9223372036854775808):arith BinOp.mul IntKind.i64 (Int.ofNat i) (Int.ofNat j)=some (I.int IntKind.i64 (Int.ofNat (i*j))):=by
 have h:=q2 (i*j) h
 have e:Int.ofNat i*Int.ofNat j=((i*j:Nat):Int):=rfl
 simp only[arith,e,h];rfl
theorem mA{a b:Nat}(h:a<=b):fb (Int.ofNat a) (Int.ofNat b)=true:=by simp[fb];omega
theorem ob{a b:Nat}(h:¬a<=b):fb (Int.ofNat a) (Int.ofNat b)=false:=by simp[fb];omega
def pa(B e:Nat)(h:J)(v:I)(w:List UInt8):Prop:=
 (v=.a0/\w=[])\/∃c rest,v=.slice c 0 w.length (.a1 1)/\h.get c=some (.cells (c8 w++rest) e .a1 0 0)/\B<=c/\c<h.n
theorem pa.ext{B e:Nat}{h an:J}{v:I}{w:List UInt8}(ae:pa B e h v w)(aK:h.n<=an.n)(al:∀c,B<=c->c<h.n->an.get c=h.get c):pa B e an v w:=by
 rcases ae with ab|⟨c,rest,ab,ad,ar,aJ⟩
 · exact .inl ab
 · exact .inr ⟨c,rest,ab,(al c ar aJ).trans ad,ar,by omega⟩
section
variable {P:Program}
theorem JI{B:Nat}{h:J}{v:I}{w s:List UInt8}{sT e:TypeId}{xT:Option TypeId}{i:TypeInfo}{z:I}(cM:B<=h.n)(hu:P.underlying sT=some (.slice e))(fy:oG P xT=true)(af:P.info? e=some i)(bw:i.size=1)(aZ:d_ P e=some z)(ia:z.cells.length=1)
  (o0:kI (w.length+s.length) i.bytes=true)(ak:pa B e h v w):
  ∃v' an,dy P h sT xT v (.str s)=some (v',an)/\pa B e an v' (w++s)/\Ext B h an:=by
 have hz:fP h 1 (.str s)=some (s.length,c8 s):=rfl
 have JJ:Nat.beq z.cells.length 1=true:=by rw[ia];rfl
 rcases ak with⟨rfl,rfl⟩|⟨c,rest,rfl,al,ql,u7⟩
 · cases s with
   |nil=>exact⟨.a0,h,by simp only[dy,hu,fy,af,aZ,bw];rfl,.inl ⟨rfl,rfl⟩,Ext.refl _ _⟩
   |cons a s=>
    have Sr:kI (a::s).length i.bytes=true:=by simpa using o0
    have dV:=va (h:=h) (e:=e) (fz:=0) Sr JJ (AT (a::s))
    refine⟨.slice h.n 0 (a::s).length (.a1 1),h.push (.cells (c8 (a::s)) e .a1 0 0),?_,.inr ⟨h.n,[],by simp,by rw[J.gk,if_pos rfl];simp,cM,by simp⟩,Ext.push cM _⟩
    rw[<-dV]
    simp only[dy,hu,fy,af,aZ,bw,hz]
    rfl
 · cases s with
   |nil=>exact⟨.slice c 0 w.length (.a1 1),h,by simp only[dy,hu,fy,af,aZ,bw];rfl,.inr ⟨c,rest,by simp,by simpa using al,ql,u7⟩,Ext.refl _ _⟩
   |cons a s=>
    have JK:(Nat.beq 1 1&&Nat.blt 0 1)=true:=rfl
    by_cases q_:(a::s).length<=rest.length
    · have oc:Nat.ble (0+(w.length+(a::s).length)*1) (c8 w++rest).length=true:=by
        simp only[Nat.ble_eq,List.length_append,tf];omega
      have aO:=x0 (c8 w) (c8 (a::s)) rest (AT _) (by rw[tf];exact q_)
      have hw:kH .a1 0 0 (0+w.length*1) (c8 (a::s)).length=true:=by unfold kH;simp
      have xy:fN (0+w.length*1) (c8 (a::s)) (c8 w++rest)=some (c8 w++(c8 (a::s)++rest.drop (c8 (a::s)).length)):=by
       rw[<-aO,tf];simp
      refine⟨.slice c 0 (w.length+(a::s).length) (.a1 1),h.set c (some (.cells (c8 w++(c8 (a::s)++rest.drop (c8 (a::s)).length)) e .a1 0 0)),?_,.inr ⟨c,rest.drop (c8 (a::s)).length,by simp,by rw[J.cR,if_pos rfl,AS];simp,ql,by simpa using u7⟩,Ext.set ql _⟩
      simp only[dy,hu,fy,af,aZ,bw,hz]
      simp only[JK,List.length_cons,al]
      simp only[List.length_cons] at oc xy hw
      simp only[oc,aM.storeCells,al,hw,xy]
    · have oc:Nat.ble (0+(w.length+(a::s).length)*1) (c8 w++rest).length=false:=by
        cases ae:Nat.ble (0+(w.length+(a::s).length)*1) (c8 w++rest).length with
        |false=>rfl
        |true=>simp only[Nat.ble_eq,List.length_append,tf] at ae;omega
      have aw:loadCells h c 0 (w.length*1)=some (c8 w):=by
       have:=Ec (xs:=c8 w) al
       rw[tf] at this;simpa using this
      have eg:(c8 w++c8 (a::s)).all I.cQ=true:=by rw[<-AS];exact AT _
      have x1:(Nat.ble 0 (0+w.length*1)&&Nat.beq e e)=true:=by simp
      have dV:=va (h:=h.set c none) (e:=e) (fz:=0-0) o0 JJ eg
      refine⟨.slice (h.set c none).n 0 (w.length+(a::s).length) (.a1 1),(h.set c none).push (.cells (c8 w++c8 (a::s)) e .a1 0 0),?_,.inr ⟨(h.set c none).n,[],by simp,by rw[J.gk,if_pos rfl,AS];simp,by simp;omega,by simp⟩,
       (Ext.set ql none).trans (Nat.le_refl _) (Ext.push (by simp;omega) _)⟩
      simp only[List.length_cons] at oc dV
      simp only[dy,hu,fy,af,aZ,bw,hz]
      simp only[JK,List.length_cons,al]
      simp only[oc,aw,x1,dV]
theorem JL{h:J}{pT u:TypeId}{c e:Nat}{w:List UInt8}{rest:List I}(hw:w≠[])(aw:w.length<=100000000000)(hu:P.underlying pT=some (.pointer u))(he:P.underlyingId e=P.underlyingId u)(hs:dh P e=some 1)(al:h.get c=some (.cells (c8 w++rest) e .a1 0 0)):
  oI P h pT (.ptr c 0) (.int .i64 (Int.ofNat w.length))=some (.str w,h.set c (some (.cells (c8 w++rest) e .fz 0 0))):=by
 have aK:w.length≠0:=by cases w<;>simp at hw⊢
 have a_:takeN w.length (jn 0 (c8 w++rest))=some (c8 w):=by
  have:=AQ (c8 w) rest
  rw[tf] at this;exact this
 have hle:Nat.ble w.length 281474976710656=true:=by simp;omega
 simp only[oI,eC,if_neg aK,hu,al,he,hs,hle,a_,Ee]
 simp
end
end aM
namespace aM
open Go
section
variable {D:Type}
variable {enc:D->List I} {w:Nat}
theorem JM:∀(l m:List I) (n:Nat),l.length=n->takeN n (l++m)=some l
 |l,m,n,h=>by subst h;exact AQ l m
end
end aM
namespace aM
open Go
theorem JN(n:Nat)(h:n<18446744073709551616):IntKind.wrap .u64 (n:Int)=(n:Int):=by
 have e:((n:Int) %18446744073709551616)=n:=by omega
 have ay:(2:Int)^64=18446744073709551616:=by rfl
 simp only[IntKind.wrap,IntKind.bits,IntKind.signed,ay,e,Bool.false_and,if_neg Bool.false_ne_true]
theorem wrap_u8(n:Nat):IntKind.wrap .u8 (n:Int)=((n %256:Nat):Int):=by
 have ay:(2:Int)^8=256:=by rfl
 simp only[IntKind.wrap,IntKind.bits,IntKind.signed,ay,Bool.false_and,if_neg Bool.false_ne_true]
 omega
theorem Ss{i j:Nat}(h:i+j<18446744073709551616):arith BinOp.add IntKind.u64 (Int.ofNat i) (Int.ofNat j)=some (I.int IntKind.u64 (Int.ofNat (i+j))):=by
 have h:=JN (i+j) h
 have e:Int.ofNat i+Int.ofNat j=((i+j:Nat):Int):=rfl
 simp only[arith,e,h];rfl
theorem St{i j:Nat}(aL:j<=i)(h:i<18446744073709551616):arith BinOp.sub IntKind.u64 (Int.ofNat i) (Int.ofNat j)=some (I.int IntKind.u64 (Int.ofNat (i-j))):=by
 have h:=JN (i-j) (by omega)
 have e:Int.ofNat i-Int.ofNat j=((i-j:Nat):Int):=by
  have aA:Int.ofNat i=(i:Int):=rfl
  have ay:Int.ofNat j=(j:Int):=rfl
  rw[aA,ay];omega
 simp only[arith,e,h];rfl
theorem Su(k:IntKind){i j:Nat}(aL:0<j):arith BinOp.rem k (Int.ofNat i) (Int.ofNat j)=some (I.int k (Int.ofNat (i %j))):=by
 have e:(Int.ofNat i).tmod (Int.ofNat j)=((i %j:Nat):Int):=rfl
 have cV:¬(Int.ofNat j=0):=by
  have aA:Int.ofNat j=(j:Int):=rfl
  rw[aA];omega
 simp only[arith,if_neg cV,e];rfl
section
variable {P:Program}
theorem JO{a b:TypeId}{ka k ea:IntKind}{n:Int}{h:J}(aS:P.underlying a=some (.int ka))(ae:P.underlying b=some (.int ea)){m:Int}(hm:ea.wrap n=m):iJ P a b (.int k n) h=.val (.int ea m) h:=by
 simp only[iJ,aS,ae,hm]
end
end aM
namespace aM
open Go
theorem mB{a b:Nat}(h:a=b):a8 (Int.ofNat a) (Int.ofNat b)=true:=by subst h;simp[a8]
theorem ji{a b:Nat}(h:¬a=b):a8 (Int.ofNat a) (Int.ofNat b)=false:=by
 cases aa:a8 (Int.ofNat a) (Int.ofNat b) with
 |false=>rfl
 |true=>simp[a8] at aa;omega
theorem AU(m l:Nat):kH .a1 0 0 m l=true:=by unfold kH;simp
structure kT(p B:Nat)(h an:J):Prop where
 n:h.n<=an.n
 get:∀b,b<B->b≠p->an.get b=h.get b
theorem Ext.Sv{B:Nat}{h an:J}(e:Ext B h an)(p:Nat):kT p B h an:=⟨e.n,λb ae _=>e.get b ae⟩
theorem kT.refl(p B:Nat)(h:J):kT p B h h:=⟨Nat.le_refl _,λ_ _ _=>rfl⟩
theorem kT.trans{p B lS:Nat}{h ab ad:J}(cM:B<=lS)(e:kT p B h ab)(cH:kT p lS ab ad):kT p B h ad:=⟨Nat.le_trans e.n cH.n,λb ae aO=>(cH.get b (Nat.lt_of_lt_of_le ae cM) aO).trans (e.get b ae aO)⟩
theorem kT.acx{p B:Nat}{h an:J}(e:kT p B h an)(aO:B<=p):Ext B h an:=⟨e.n,λb ae=>e.get b ae (by omega)⟩
theorem Ext.le{B lS:Nat}{h an:J}(e:Ext lS h an)(cM:B<=lS):Ext B h an:=⟨e.n,λb ae=>e.get b (by omega)⟩
end aM
namespace aM
open Go
theorem fj{h:J}{o:da}{b:Nat}(ae:b=h.n):(h.push o).get b=some o:=by subst ae;rw[J.gk,if_pos rfl]
theorem mC{h:J}{o:da}{b:Nat}{x:Option da}(ae:b<h.n)(aa:h.get b=x):(h.push o).get b=x:=by rw[J.gk,if_neg (by omega)];exact aa
theorem gI{h:J}{o:da}{b c:Nat}(ae:b=c):(h.set c (some o)).get b=some o:=by subst ae;rw[J.cR,if_pos rfl]
theorem dH{h:J}{b c:Nat}{o x:Option da}(ae:¬b=c)(aa:h.get b=x):(h.set c o).get b=x:=by rw[J.cR,if_neg ae];exact aa
theorem aU{h:J}{b off:Nat}{cs:List I}{e aN up:Nat}{k:gE}{v:I}(al:h.get b=some (.cells cs e k aN up))(aK:nth off cs=some v):au h b off=some v:=by simp only[au,al,aK]
theorem pb{h:J}{b off m:Nat}{cs vs:List I}{e aN up:Nat}{k:gE}(al:h.get b=some (.cells cs e k aN up))(aK:takeN m (jn off cs)=some vs):aM.loadCells h b off m=some vs:=by simp only[aM.loadCells,al,aK]
theorem gJ{h:J}{b off:Nat}{xs cs bN:List I}{e aN up:Nat}{k:gE}(al:h.get b=some (.cells cs e k aN up))(hw:kH k aN up off xs.length=true)(aO:fN off xs cs=some bN):aM.storeCells h b off xs=some (h.set b (some (.cells bN e k aN up))):=by simp only[aM.storeCells,al,hw,aO]
theorem Ext.iQ{B b:Nat}{h g:J}{o:Option da}(ae:B<=b)(e:Ext B h g):Ext B h (g.set b o):=e.trans (Nat.le_refl _) (Ext.set ae _)
theorem Ext.ks{B:Nat}{h g:J}{o:da}(cM:B<=g.n)(e:Ext B h g):Ext B h (g.push o):=e.trans (Nat.le_refl _) (Ext.push cM _)
theorem Ext.h3{B k:Nat}{h g:J}(e:Ext B h g):Ext B h (g.room k):=⟨Nat.le_trans e.n (Nat.le_add_right _ _),e.get⟩
theorem JP(a:List UInt8):dF a a=true:=by
 induction a with
 |nil=>rfl
 |cons x l a6=>simp[dF,a6]
theorem Sw(a b:Int):k7 pL (.int .i64 a) [.int .i64 b]=some (.int .i64 (min a b)):=by
 simp only[k7,pL,if_true]
 by_cases h:b<a
 · have aw:bM b a=true:=by simp[bM];omega
   rw[if_pos aw,Int.min_eq_right (by omega)]
 · have aw:¬bM b a=true:=by simp[bM];omega
   rw[if_neg aw,Int.min_eq_left (by omega)]
theorem Sx(a b:Nat):k7 pL (.int .i64 (Int.ofNat a)) [.int .i64 (Int.ofNat b)]=some (.int .i64 (Int.ofNat (min a b))):=by
 rw[Sw];congr 2
 show min (a:Int) (b:Int)=((min a b:Nat):Int)
 omega
end aM
