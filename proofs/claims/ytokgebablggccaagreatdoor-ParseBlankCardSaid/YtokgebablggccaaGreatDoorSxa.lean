/-
  PROVED HERE: symbolic runs of the evaluator, and that they are sound (Sxa). No condition beside each statement's own.
-/
import Derived.Test.YtokgebablggccaaGreatDoorAed
set_option linter.unusedVariables false
set_option linter.unusedSimpArgs false
namespace aJ
open Go
variable {B f hi id lo m n:Nat}{args env:List aa}{ay h:I}{b c:Code}{d:List cc}{e:cl}{g:Operand->aa}{gd:Option (aa×Bool)}{o:Oper}{ops:Array Oper}{r:bf}{s:DStep}{t:TypeId}{v:aa}
abbrev Env:=List (Nat×aa)
def gk(t:Nat):Env->Option aa
 |[]=>none
 |(u,v)::l=>match Nat.beq t u with
  |true=>some v
  |false=>gk t l
def del(t:Nat):Env->Env
 |[]=>[]
 |(u,v)::l=>match Nat.beq t u with
  |true=>del t l
  |false=>(u,v)::del t l
def put(t:Nat)(v:aa)(av:Env):Env:=(t,v)::del t av
def qa(av:Env):List Nat->Env
 |[]=>[]
 |t::l=>match gk t av with
  |some v=>(t,v)::qa av l
  |none=>qa av l
def Mod(r:bf)(av:Env):Prop:=∀t v,gk t av=some v->r.get (jB t)=v
structure bD where
 av:Env
 d:List cc
 q:cm
 h:I
inductive Hint where
 |v (v:aa)
 |cU (v:aa) (h:I)
 |c (v:aa) (h:I)
 |p (v:aa) (h:I)
 |b (b:Bool)
 |loop (e:cl) (st:bD)
 |Zz (v:aa) (o:b5)
 |o (v:aa)
 |ZA
def ei:List Prop->Prop
 |[]=>True
 |p::l=>p/\ei l
theorem ei.cons{p:Prop}{l:List Prop}(h:p)(t:ei l):ei (p::l):=⟨h,t⟩
theorem ei.nil:ei []:=trivial
theorem ei.append:∀{l m:List Prop},ei (l++m)->ei l/\ei m
 |[],m,h=>⟨trivial,h⟩
 |p::l,m,h=>⟨⟨h.1,(ei.append h.2).1⟩,(ei.append h.2).2⟩
def sl(m:Nat)(env:List aa)(av:Env):Acc->Option aa
 |.env j=>nth (m-1-j) env
 |.o3 p=>gk p.num av
 |.val v=>some v
def JU(o:Oper)(g:Operand->aa):Nat:=match o.op with
 |.load .. |.slice .. |.index .. |.indexAddr .. |.lookup .. |.entry .. =>1
 |.binOp op _ x y _=>match op,g x,g y with
  |.eql,.int _ _,.int _ _|.neq,.int _ _,.int _ _|.lss,.int _ _,.int _ _|.leq,.int _ _,.int _ _|.gtr,.int _ _,.int _ _|.geq,.int _ _,.int _ _=>0
  |.eql,.str _,.str _|.neq,.str _,.str _|.lss,.str _,.str _|.leq,.str _,.str _|.gtr,.str _,.str _|.geq,.str _,.str _=>0
  |_,_,_=>1
 |.unOp op _ _=>match op with
  |.not=>0
  |_=>1
 |.convert _ _ x=>match g x with
  |.str _=>2
  |_=>1
 |.range _ x=>match g x with
  |.map _=>2
  |_=>0
 |.store .. |.mapUpdate .. |.mapEntry .. |.entryStore .. |.insert .. |.next .. |.makeSlice .. =>2
 |.call c=>match c.callee with
  |.builtin b=>match b with
   |.len=>match c.args.toList.map g with
    |[.map _]=>1
    |_=>0
   |.cap|.min|.max|.unsafeSliceData=>1
   |.append|.copy|.clear|.delete|.unsafeString=>2
   |_=>0
  |_=>0
 |_=>0
def eJ(n:Nat)(s:List UInt8):Option aa:=match nth n s with
 |some b=>some (.int .u8 (Int.ofNat b.toNat))
 |none=>none
def nJ(P:Program)(o:Oper)(g:Operand->aa)(h:I)(v:aa):Prop:=match o.op with
 |.load t a=>match g a,oh P t,eg P t with
  |.ptr b off,some false,some _=>aC h b off=some v
  |.ptr b off,some true,some n=>match v with
   |.agg cs=>loadCells h b off n=some cs
   |_=>False
  |_,_,_=>False
 |.binOp op t x y _=>match g x,g y with
  |.int k a,.int k' b=>match op with
   |.shl=>gv .shl k a b=some v
   |.shr=>gv .shr k a b=some v
   |op=>match decide (k=k') with
    |true=>arith op k a b=some v
    |false=>False
  |.str a,.str b=>zR op a b=some v
  |a,b=>hs P h op t x y a b=some v
 |.slice t x lo hi mx=>kC P h t (g x) (lo.map g) (hi.map g) (mx.map g)=some v
 |.index t x i=>match P.underlying t,g x,hS (g i) with
  |some .string,.str s,some n=>eJ n s=some v
  |some (.array m e),.agg cs,some n=>match eg P e with
   |some sz=>n<m/\pS P e cs (n*sz)=some v
   |none=>False
  |_,_,_=>False
 |.indexAddr t x i=>match P.underlying t,g x,hS (g i) with
  |some (.array m e),.ptr b off,some n=>match eg P e with
   |some sz=>n<m/\v=.ptr b (off+n*sz)
   |none=>False
  |some (.slice e),.slice b off m c,some n=>match eg P e with
   |some sz=>n<m/\v=.ptr b (off+n*sz)
   |none=>False
  |_,_,_=>False
 |.lookup t x i ok=>mY P h t (g x) (g i) ok=some v
 |.entry it=>E4 h (g it)=some v
 |.unOp op _ x=>match op,g x with
  |.neg,.int k n=>v=.int k (k.wrap (0-n))
  |.xor,.int k n=>arith .xor k (if k.signed then-1 else k.max) n=some v
  |_,_=>False
 |.convert src dst x=>df P src dst (g x) h=.val v h
 |.call c=>match c.callee,c.args.toList.map g,c.argTypes[0]? with
  |.builtin .len,[x],some t=>o2 P h t x=some v
  |.builtin .cap,[x],some t=>EU P t x=some v
  |.builtin .min,x::l,_=>vH BI x l=some v
  |.builtin .max,x::l,_=>vH BJ x l=some v
  |.builtin .unsafeSliceData,[x],some t=>kX P .unsafeSliceData #[t] [x] h=.val v h
  |_,_,_=>False
 |_=>False
def P6(P:Program)(h:I)(t:TypeId)(l c:aa):Option (aa×I):=match P.underlying t,hS l,hS c with
 |some (.slice e),some l,some c=>match P.info? e,gu P e with
  |some i,some z=>if l<=c&&Nat.ble (c*(i.bytes+1)) 1099511627776&&Nat.beq z.cells.length i.size then(match newRow h e (if c*i.size=0 then[] else iW c z.cells) with
   |some (b,ay)=>some (.slice b 0 l (.exact c),ay)
   |none=>none) else none
  |_,_=>none
 |_,_,_=>none
def P7(h:I):aa->Option (aa×I)
 |.map m=>match h.get m with
  |some (.map _ c)=>some (.ptr h.n 0,h.push (.mapIter (some m) c [] c))
  |_=>none
 |_=>none
def As(P:Program)(o:Oper)(g:Operand->aa)(h:I)(v:aa)(ay:I):Prop:=match o.op with
 |.store t a x=>match g a with
  |.ptr b off=>eg P t=some (g x).cells.length/\storeCells h b off (g x).cells=some ay/\v=.aF []
  |_=>False
 |.convert src dst x=>df P src dst (g x) h=.val v ay
 |.mapUpdate t m k x=>iA P h t (g m) (g k) (g x)=some ay/\v=.aF []
 |.insert t m k x=>iA P h t (g m) (g k) (g x)=some ay/\v=.aF []
 |.mapEntry t m k=>E0 P h t (g m) (g k)=some (v,ay)
 |.entryStore t m s x=>E1 h (g m) (g s) (g x)=some ay/\v=.aF []
 |.next it isStr=>kh h (g it) isStr=some (v,ay)
 |.range t x=>match P.underlying t with
  |some (.map _ _)=>P7 h (g x)=some (v,ay)
  |_=>False
 |.makeSlice t l c=>P6 P h t (g l) (g c)=some (v,ay)
 |.call c=>match c.callee,c.args.toList.map g,c.argTypes[0]? with
  |.builtin .append,[x,y],some t=>fi P h t c.argTypes[1]? x y=some (v,ay)
  |.builtin .copy,[x,y],some t=>EV P h t x y=some (v,ay)
  |.builtin .clear,[x],some t=>EX P h t x=some (v,ay)
  |.builtin .delete,[x,y],some t=>E2 P h t x y=some (v,ay)
  |.builtin .unsafeString,[x,y],some t=>um P h t x y=some (v,ay)
  |_,_,_=>False
 |_=>False
inductive qb where
 |ok (v:aa) (d:List cc) (q:cm) (h:I)
 |aK (v:aa) (d:List cc) (q:cm) (h:I)
def qb.res:qb->BP
 |.ok v d q h=>.ok v d q h
 |.aK v d q h=>.aK v d q h
inductive bw(α:Type 1) where
 |dr (a:α)
 |stop (lh:String) (x:Option Bool)
structure jf(α:Type):Type 1 where
 res:α
 cs:List Prop
 ah:List Hint
structure ZB(l:List aa):Prop where
 h:l.all aa.dJ=true
def F6(call:e0)(pos:String)(f:ht)(args:List aa)(d:List cc)(q:cm)(h:I):List Hint->bw (jf qb)
 |.c v ay::ah=>.dr ⟨.ok v d q ay,[call f args h=.ret v ay],ah⟩
 |.p v ay::ah=>.dr ⟨.aK v d q ay,[call f args h=.aK v ay],ah⟩
 |_=>.stop ("call " ++pos) none
def ZC(P:Program)(o:Oper):Bool:=match o.op with
 |.call c=>match c.callee with
  |.builtin b=>match b with
   |.len=>true
   |_=>false
  |_=>false
 |.binOp op t _ _ _=>match op with
  |.eql|.neq=>match P.underlying t with
   |some (.int _)=>false
   |some .string=>false
   |some .bool=>false
   |some _=>true
   |none=>false
  |_=>false
 |_=>false
def ZD(P:Program)(o:Oper):List Hint->Option (aa×List Hint)
 |.o v::ah=>match ZC P o with
  |true=>some (v,ah)
  |false=>none
 |_=>none
def P8(o:Oper):List Hint->Option (TypeId×Operand×List Hint)
 |.ZA::ah=>match o.op with
  |.box e x=>some (e,x,ah)
  |_=>none
 |_=>none
def JV(P:Program)(inR:Bool)(call:e0)(o:Oper)(g:Operand->aa)(d:List cc)(q:cm)(h:I)(ah:List Hint):bw (jf qb):=
 match ZD P o ah with
 |some (v,ah)=>.dr ⟨.ok v d q h,[nJ P o g h v],ah⟩
 |none=>match P8 o ah with
  |some (e,x,ah)=>.dr ⟨.ok (.ptr h.n 0) d q (h.push (.cells (g x).cells e .own 0 0)),[ZB (g x).cells],ah⟩
  |none=>match JU o g with
   |0=>match dg P o g h with
    |.val v ay=>.dr ⟨.ok v d q ay,[],ah⟩
    |.aK v ay=>.dr ⟨.aK v d q ay,[],ah⟩
    |.call f args ay=>F6 call o.pos (.fn f) args d q ay ah
    |.gJ l args ay=>F6 call o.pos (.gJ l) args d q ay ah
    |.vF x=>match inR with
     |true=>.stop "defer" none
     |false=>.dr ⟨.ok (.aF []) (x::d) q h,[],ah⟩
    |.xA=>match inR with
     |true=>.stop "recover" none
     |false=>match q with
      |.none=>.dr ⟨.ok .c3 d .none h,[],ah⟩
      |.done v=>.dr ⟨.ok .c3 d (.done v) h,[],ah⟩
      |.act v=>.dr ⟨.ok v d (.done v) h,[],ah⟩
    |.fail w=>.stop (w++ " " ++o.pos) none
   |1=>match ah with
    |.v v::ah=>.dr ⟨.ok v d q h,[nJ P o g h v],ah⟩
    |_=>.stop ("value " ++o.pos) none
   |_=>match ah with
    |.cU v ay::ah=>.dr ⟨.ok v d q ay,[As P o g h v ay],ah⟩
    |_=>.stop ("value and memory " ++o.pos) none
def JW(o:Oper)(g:Operand->aa)(d:List cc)(q:cm)(h:I)(ah:List Hint):Option (bw (jf qb)):=match o.op with
 |.pick c a b=>match g c with
  |.bool x=>match ah with
   |.b true::ah=>some (.dr ⟨.ok (g a) d q h,[x=true],ah⟩)
   |.b false::ah=>some (.dr ⟨.ok (g b) d q h,[x=false],ah⟩)
   |_=>some (.stop ("pick " ++o.pos) (some x))
  |_=>some (.stop ("pick of what " ++o.pos) none)
 |_=>none
def F7(P:Program)(inR:Bool)(call:e0)(o:Oper)(g:Operand->aa)(d:List cc)(q:cm)(h:I)(ah:List Hint):bw (jf qb):=match JW o g d q h ah with
 |some r=>r
 |none=>JV P inR call o g d q h ah
def At(P:Program)(inR:Bool)(call:e0)(gd:Option (aa×Bool))(o:Oper)(g:Operand->aa)(d:List cc)(q:cm)(h:I)(ah:List Hint):bw (jf qb):=
 match gd with
 |none=>F7 P inR call o g d q h ah
 |some (.bool x,b)=>match ah with
  |.b c::ah=>match c==b with
   |true=>match F7 P inR call o g d q h ah with
    |.dr ⟨s,cs,ah⟩=>.dr ⟨s,(x=c)::cs,ah⟩
    |.stop w x=>.stop w x
   |false=>.dr ⟨.ok (.aF []) d q h,[x=c],ah⟩
  |_=>.stop ("guard " ++o.pos) (some x)
 |some (.aF [],_)=>.dr ⟨.ok (.aF []) d q h,[],ah⟩
 |_=>.stop ("guard of what " ++o.pos) none
def Au(P:Program)(need m:Nat)(env:List aa)(av:Env)(loc:List (Nat×Acc))(o:Oper):Bool:=o.op.operands.toList.all λx=>(sl m env av (c7 P need loc x)).isSome
def nK(P:Program)(need m:Nat)(env:List aa)(av:Env)(loc:List (Nat×Acc))(x:Operand):aa:=(sl m env av (c7 P need loc x)).getD .bad
def P9(env:List aa)(av:Env)(s:Step):Option (Option (aa×Bool)):=match s.guard with
 |none=>some none
 |some (a,b)=>match sl s.m env av a with
  |some v=>some (some (v,b))
  |none=>none
def F8(P:Program)(need:Nat)(inR:Bool)(call:e0)(av:Env):List Step->List aa->List cc->cm->I->List Hint->bw (jf pV)
 |[],env,d,q,h,ah=>.dr ⟨.ok env d q h,[],ah⟩
 |s::rest,env,d,q,h,ah=>
  match Au P need s.m env av s.loc s.o with
  |false=>.stop ("an operand " ++s.o.pos) none
  |true=>
   match P9 env av s with
   |none=>.stop ("guard " ++s.o.pos) none
   |some gd=>match At P inR call gd s.o (nK P need s.m env av s.loc) d q h ah with
    |.dr ⟨.ok v bT bZ ay,cs,e3⟩=>match F8 P need inR call av rest (v::env) bT bZ ay e3 with
     |.dr ⟨x,cq,ym⟩=>.dr ⟨x,cs++cq,ym⟩
     |.stop w x=>.stop w x
    |.dr ⟨.aK v bT bZ ay,cs,e3⟩=>.dr ⟨.aK v bT bZ ay,cs,e3⟩
    |.stop w x=>.stop w x
def yn(need m:Nat)(env:List aa)(ia:Env):List (Nat×Acc)->Env->Env
 |[],av=>av
 |(t,a)::l,av=>
  match Nat.testBit need t with
  |true=>match sl m env ia a with
   |some v=>put t v (yn need m env ia l av)
   |none=>del t (yn need m env ia l av)
  |false=>yn need m env ia l av
def F9:List (Nat×Acc)->Env->Env
 |[],av=>av
 |(t,_)::l,av=>del t (F9 l av)
def I.room(h:I)(k:Nat):I:=⟨h.t,h.n+k⟩
@[simp] theorem I.alC (h:I) (k b:Nat):(h.room k).get b=h.get b:=rfl
@[simp] theorem I.Av (h:I) (k:Nat):(h.room k).n=h.n+k:=rfl
abbrev ri:=List (Nat×Nat×I)
structure l4 where
 env:List aa
 d:List cc
 q:cm
 h:I
 bp:ri
def CT(P:Program)(need:Nat)(ops:Array Oper)(n:Nat)(env:List aa)(av:Env)(s:DStep):Option (Option (aa×Bool)):=match lE P need ops s.loc s.o with
 |none=>some none
 |some (a,b)=>match sl n env av a with
  |some v=>some (some (v,b))
  |none=>none
def yo(s:DStep):ri->Bool
 |[]=>true
 |(e,_,_)::_=>Nat.testBit s.fL e
def Aw(P:Program)(t:TypeId)(l c:aa)(b:Nat):Option (aa×b5):=match P.underlying t,hS l,hS c with
 |some (.slice e),some l,some c=>match P.info? e,gu P e with
  |some i,some z=>match decide (l<=c)&&Nat.ble (c*(i.bytes+1)) 1099511627776&&Nat.beq z.cells.length i.size,(if c*i.size=0 then[] else iW c z.cells) with
   |true,cs=>match cs.all aa.dJ with
    |true=>some (.slice b 0 l (.exact c),.cells cs e .own 0 0)
    |false=>none
   |_,_=>none
  |_,_=>none
 |_,_,_=>none
def P_(P:Program)(op:Op)(g:Operand->aa)(b:Nat)(v:aa)(o:b5):Prop:=match op with
 |.makeSlice t l c=>Aw P t (g l) (g c) b=some (v,o)
 |_=>False
theorem Qa{P:Program}{op:Op}{b:Nat}{o:b5}(h:P_ P op g b v o):ki P op g b=some (v,o):=by
 cases op<;>first|exact h|exact absurd h id
def Qb(P:Program)(gd:Option (aa×Bool))(s:DStep)(g:Operand->aa)(b:Nat)(st:l4)(ah:List Hint):bw (jf l4):=
 match gd with
 |none=>match ah with
  |.Zz v o::ah=>.dr ⟨⟨v::st.env,st.d,st.q,st.h.set b (some o),st.bp⟩,[P_ P s.o.op g b v o],ah⟩
  |ah=>match ki P s.o.op g b with
   |some (v,o)=>.dr ⟨⟨v::st.env,st.d,st.q,st.h.set b (some o),st.bp⟩,[],ah⟩
   |none=>.stop ("alloc " ++s.o.pos) none
 |some (.bool x,c)=>match ah with
  |.b y::ah=>match y==c with
   |true=>match ki P s.o.op g b with
    |some (v,o)=>.dr ⟨⟨v::st.env,st.d,st.q,st.h.set b (some o),st.bp⟩,[x=y],ah⟩
    |none=>.stop ("alloc " ++s.o.pos) none
   |false=>.dr ⟨⟨.aF []::st.env,st.d,st.q,st.h,st.bp⟩,[x=y],ah⟩
  |_=>.stop ("guard " ++s.o.pos) (some x)
 |some (.aF [],_)=>.dr ⟨⟨.aF []::st.env,st.d,st.q,st.h,st.bp⟩,[],ah⟩
 |_=>.stop ("guard of what " ++s.o.pos) none
def F_(P:Program)(need:Nat)(inR:Bool)(call:e0)(ops:Array Oper)(av:Env)(bE:Nat)(s:DStep)(st:l4)(ah:List Hint):bw (jf l4):=
 match Au P need s.i st.env av s.loc s.o with
 |false=>.stop ("an operand " ++s.o.pos) none
 |true=>match CT P need ops s.i st.env av s with
  |none=>.stop ("guard " ++s.o.pos) none
  |some gd=>match kindOf P s.o.op with
   |.alloc=>Qb P gd s (nK P need s.i st.env av s.loc) (bE+s.i) st ah
   |.pure=>match At P inR call gd s.o (nK P need s.i st.env av s.loc) st.d st.q st.h ah with
    |.dr ⟨.ok v _ _ _,cs,e3⟩=>.dr ⟨⟨v::st.env,st.d,st.q,st.h,st.bp⟩,cs,e3⟩
    |.dr ⟨.aK _ _ _ _,_,_⟩=>.stop ("a panic " ++s.o.pos) none
    |.stop w x=>.stop w x
   |.fq=>match yo s st.bp with
    |false=>.stop ("order " ++s.o.pos) none
    |true=>match At P inR call gd s.o (nK P need s.i st.env av s.loc) st.d st.q st.h ah with
     |.dr ⟨.ok v bT bZ ay,cs,e3⟩=>.dr ⟨⟨v::st.env,bT,bZ,ay,(s.i,s.fL,st.h)::st.bp⟩,cs,e3⟩
     |.dr ⟨.aK _ _ _ _,_,_⟩=>.stop ("a panic " ++s.o.pos) none
     |.stop w x=>.stop w x
def Ga(P:Program)(need:Nat)(inR:Bool)(call:e0)(ops:Array Oper)(av:Env)(bE:Nat):List DStep->l4->List Hint->bw (jf l4)
 |[],st,ah=>.dr ⟨st,[],ah⟩
 |s::rest,st,ah=>match F_ P need inR call ops av bE s st ah with
  |.dr ⟨cv,cs,e3⟩=>match Ga P need inR call ops av bE rest cv e3 with
   |.dr ⟨y,cq,ym⟩=>.dr ⟨y,cs++cq,ym⟩
   |.stop w x=>.stop w x
  |.stop w x=>.stop w x
def JX(P:Program)(need:Nat)(inR:Bool)(call:e0)(ops:Array Oper)(av:Env)(s:DStep)(rest:List DStep)(st:l4)(ah:List Hint):bw (jf (aa×l4)):=
 match Au P need s.i st.env av s.loc s.o with
 |false=>.stop ("an operand " ++s.o.pos) none
 |true=>match CT P need ops s.i st.env av s with
  |none=>.stop ("guard " ++s.o.pos) none
  |some gd=>match kindOf P s.o.op with
   |.fq=>match yo s st.bp with
    |false=>.stop ("order " ++s.o.pos) none
    |true=>match At P inR call gd s.o (nK P need s.i st.env av s.loc) st.d st.q st.h ah with
     |.dr ⟨.aK v bT bZ ay,cs,e3⟩=>match rest.all (λbF=>Nat.testBit bF.fL s.i) with
      |true=>.dr ⟨(v,⟨st.env,bT,bZ,ay,(s.i,s.fL,st.h)::st.bp⟩),cs,e3⟩
      |false=>.stop ("panic " ++s.o.pos) none
     |_=>.stop ("no panic " ++s.o.pos) none
   |_=>.stop ("no panic " ++s.o.pos) none
def Gb(P:Program)(need:Nat)(inR:Bool)(call:e0)(ops:Array Oper)(av:Env)(bE:Nat):List DStep->l4->List Hint->bw (jf (aa×l4))
 |[],_,_=>.stop "no panic" none
 |s::rest,st,ah=>match JX P need inR call ops av s rest st ah with
  |.dr y=>.dr y
  |.stop _ _=>match F_ P need inR call ops av bE s st ah with
   |.dr ⟨cv,cs,e3⟩=>match Gb P need inR call ops av bE rest cv e3 with
    |.dr ⟨y,cq,ym⟩=>.dr ⟨y,cs++cq,ym⟩
    |.stop w x=>.stop w x
   |.stop w x=>.stop w x
mutual
def aa.sound:aa->Bool
 |.bad=>false
 |.fn _ a b=>tv a&&tv b
 |.iface _ v=>v.sound
 |.agg l=>tv l
 |.aF l=>tv l
 |_=>true
def tv:List aa->Bool
 |[]=>true
 |a::l=>a.sound&&tv l
end
def Qc(o:Oper)(g:Operand->aa):Option (Bool×aa×aa):=match o.op with
 |.pick c a b=>match g c with
  |.bool x=>some (x,g a,g b)
  |_=>none
 |_=>none
def isLen(o:Oper):Bool:=match o.op with
 |.call c=>match c.callee with
  |.builtin .len=>true
  |_=>false
 |_=>false
def CU(P:Program)(o:Oper)(g:Operand->aa)(h:I)(v:aa):List Prop:=match Qc o g with
 |some (x,a,b)=>[v.sound=true,cond x a b=v]
 |none=>match isLen o with
  |true=>[v.sound=true,nJ P o g h v]
  |false=>match JU o g with
   |1=>[v.sound=true,nJ P o g h v]
   |_=>match dg P o g h with
    |.val v' _=>[v.sound=true,v'=v]
    |_=>[False]
def lookW(v:aa)(q p:Prop):Prop:=match v with
 |.aF []=>q
 |_=>p
def JY(P:Program)(need:Nat)(ops:Array Oper)(av:Env)(n:Nat)(env:List aa)(s:DStep)(v:aa)(h:I):List Prop:=
 match Au P need n env av s.loc s.o,CT P need ops n env av s with
 |true,some gd=>match gd with
  |none=>CU P s.o (nK P need n env av s.loc) h v
  |some (.bool x,b)=>[lookW v ((x==b)=false) (ei (CU P s.o (nK P need n env av s.loc) h v))]
  |some (.aF [],_)=>[]
  |_=>[False]
 |_,_=>[False]
def uE(s:DStep)(nx:Option Nat)(bp:ri):Bool:=(match nx with|none=>false|some e=>Nat.testBit s.fL e)||(match bp with|[]=>false|(_,m,_)::_=>Nat.testBit m s.i)
def Ax(P:Program)(need:Nat)(ops:Array Oper)(av:Env)(n:Nat)(env:List aa)(s:DStep)(v:aa):Option Nat->I->ri->List Prop
 |nx,h,bp=>
  (match uE s nx bp with
   |true=>[]
   |false=>JY P need ops av n env s v h)++
  (match bp with
   |[]=>[]
   |(e,_,ay)::rest=>Ax P need ops av n env s v (some e) ay rest)
def Gc(P:Program)(need:Nat)(ops:Array Oper)(av:Env)(n:Nat)(env:List aa)(h:I)(bp:ri):List DStep->List Prop
 |[]=>[]
 |s::rest=>(match Nat.blt s.i n,kindOf P s.o.op with
   |true,.pure=>Ax P need ops av n env s ((nth (n-1-s.i) env).getD .bad) none h bp
   |_,_=>[])++Gc P need ops av n env h bp rest
def Gd(P:Program)(need:Nat)(ops:Array Oper)(av:Env)(n:Nat)(env:List aa)(last:Option Nat)(h:I)(bp:ri):List DStep->List Prop
 |[]=>[]
 |s::rest=>(match Nat.blt s.i n,kindOf P s.o.op with
   |true,.pure=>Ax P need ops av n env s ((nth (n-1-s.i) env).getD .bad) last h bp
   |_,_=>[])++Gd P need ops av n env last h bp rest
def JZ(P:Program)(need:Nat)(inR:Bool)(call:e0)(ops:Array Oper)(st:bD)(ah:List Hint):bw (jf (cl×bD)):=
 match Gb P need inR call ops st.av st.h.n (fW ops.toList 0 [] []) ⟨[],st.d,st.q,st.h.room ops.size,[]⟩ ah with
 |.dr ⟨(v,⟨env,d,q,h,(e,m,h0)::bp⟩),cs,e3⟩=>.dr ⟨(.aK v,⟨F9 (kY ops.toList 0 []) st.av,d,q,h⟩),cs++Gd P need ops st.av env.length env (some e) h0 bp (fW ops.toList 0 [] []),e3⟩
 |.dr _=>.stop "no panic" none
 |.stop w x=>.stop w x
def J0(P:Program)(need:Nat)(inR:Bool)(call:e0)(ops:Array Oper)(st:bD)(ah:List Hint):bw (jf (cl×bD)):=
 match Ga P need inR call ops st.av st.h.n (fW ops.toList 0 [] []) ⟨[],st.d,st.q,st.h.room ops.size,[]⟩ ah with
 |.dr ⟨⟨env,d,q,h,bp⟩,cs,e3⟩=>.dr ⟨(.nrm,⟨yn need env.length env st.av (kY ops.toList 0 []) st.av,d,q,h⟩),cs++Gc P need ops st.av env.length env h bp (fW ops.toList 0 [] []),e3⟩
 |.stop _ _=>JZ P need inR call ops st ah
def dU(P:Program)(need:Nat)(rd:Option Nat)(call:e0)(c:Code)(st:bD)(e:cl)(cv:bD):Prop:=
 ∀r,Mod r st.av->∃r',eR P need rd call c r st.d st.q st.h=.ok e r' cv.d cv.q cv.h/\Mod r' cv.av
def ZE(need:Nat)(av:Env)(loc:List (Nat×Acc)):pV->Option (cl×bD)
 |.ok env d q h=>some (.nrm,⟨yn need env.length env av loc av,d,q,h⟩)
 |.aK v d q h=>some (.aK v,⟨F9 loc av,d,q,h⟩)
 |.fail _=>none
def ov(P:Program)(need:Nat)(rd:Option Nat)(call:e0):Code->bD->List Hint->bw (jf (cl×bD))
 |.skip,st,ah=>.dr ⟨(.nrm,st),[],ah⟩
 |.label _,st,ah=>.dr ⟨(.nrm,st),[],ah⟩
 |.exit id,st,ah=>.dr ⟨(.exit id,st),[],ah⟩
 |.ret,st,ah=>.dr ⟨(.ret,st),[],ah⟩
 |.scope b,st,ah=>ov P need rd call b st ah
 |.region id ops draw,st,ah=>
  match draw with
  |false=>
   match F8 P need rd.isSome call st.av (s8 P need ops).steps [] st.d st.q st.h ah with
   |.dr ⟨x,cs,e3⟩=>match ZE need st.av (s8 P need ops).loc x with
    |some r=>.dr ⟨r,cs,e3⟩
    |none=>.stop "region" none
   |.stop w x=>.stop w x
  |true=>J0 P need rd.isSome call ops st ah
 |.seq a b,st,ah=>match ov P need rd call a st ah with
  |.dr ⟨(.nrm,cv),cs,e3⟩=>match ov P need rd call b cv e3 with
   |.dr ⟨r,cq,ym⟩=>.dr ⟨r,cs++cq,ym⟩
   |.stop w x=>.stop w x
  |x=>x
 |.cond c a b,st,ah=>match sl 0 [] st.av (c7 P need [] c) with
  |some (.bool x)=>match ah with
   |.b true::ah=>match ov P need rd call a st ah with
    |.dr ⟨r,cs,e3⟩=>.dr ⟨r,(x=true)::cs,e3⟩
    |.stop w x=>.stop w x
   |.b false::ah=>match ov P need rd call b st ah with
    |.dr ⟨r,cs,e3⟩=>.dr ⟨r,(x=false)::cs,e3⟩
    |.stop w x=>.stop w x
   |_=>.stop "if" (some x)
  |_=>.stop "if what" none
 |.block id b,st,ah=>match ov P need rd call b st ah with
  |.dr ⟨(.exit i,cv),cs,e3⟩=>match Nat.beq i id with
   |true=>.dr ⟨(.nrm,cv),cs,e3⟩
   |false=>.dr ⟨(.exit i,cv),cs,e3⟩
  |x=>x
 |.loop b,st,ah=>match ah with
  |.loop e cv::ah=>.dr ⟨(e,cv),[dU P need rd call (.loop b) st e cv],ah⟩
  |_=>.stop "loop" none
 |.rangeFunc f ps as dG,st,ah=>match ah with
  |.loop e cv::ah=>.dr ⟨(e,cv),[dU P need rd call (.rangeFunc f ps as dG) st e cv],ah⟩
  |_=>.stop "range over a function" none
 |.goto _,_,_=>.stop "goto" none
 |.refuse _,_,_=>.stop "refuse" none
theorem J1:∀(p q:kf),p.num=q.num->p=q
 |.here,.here,_=>rfl
 |.here,.l q,h=>by simp only[kf.num] at h;omega
 |.here,.r q,h=>by simp only[kf.num] at h;omega
 |.l p,.here,h=>by simp only[kf.num] at h;omega
 |.r p,.here,h=>by simp only[kf.num] at h;omega
 |.l p,.l q,h=>by rw[J1 p q (by simp only[kf.num] at h;omega)]
 |.r p,.r q,h=>by rw[J1 p q (by simp only[kf.num] at h;omega)]
 |.l p,.r q,h=>by simp only[kf.num] at h;omega
 |.r p,.l q,h=>by simp only[kf.num] at h;omega
theorem Qd(p:kf):jB p.num=p:=J1 _ _ (Iy _)
theorem yp(t u:Nat):(t=u/\Nat.beq t u=true)\/(t≠u/\Nat.beq t u=false):=by
 by_cases h:t=u
 · exact .inl ⟨h,by simp[h]⟩
 · refine .inr ⟨h,?_⟩
   cases ag:Nat.beq t u with
   |false=>rfl
   |true=>exact absurd (Nat.eq_of_beq_eq_true ag) h
theorem J2(t u:Nat):∀av:Env,gk t (del u av)=if t=u then none else gk t av
 |[]=>by simp[del,gk]
 |(x,v)::l=>by
  have bM:=J2 t u l
  simp only[del]
  rcases yp u x with⟨e,ag⟩|⟨e,ag⟩
  · rw[ag];simp only[bM,gk]
    subst e
    rcases yp t u with⟨aE,en⟩|⟨aE,en⟩
    · rw[if_pos aE,if_pos aE]
    · rw[if_neg aE,if_neg aE,en]
  · rw[ag];simp only[gk,bM]
    rcases yp t x with⟨aE,en⟩|⟨aE,en⟩
    · rw[en];simp only[]
      rw[if_neg]
      intro h;exact e (by rw[<-h,aE])
    · rw[en]
theorem ZF(t u:Nat)(v:aa)(av:Env):gk t (put u v av)=if t=u then some v else gk t av:=by
 simp only[put,gk]
 rcases yp t u with⟨e,ag⟩|⟨e,ag⟩
 · rw[ag,if_pos e]
 · rw[ag,if_neg e,J2,if_neg e]
theorem Mod.put{r:bf}{av:Env}(h:Mod r av)(t:Nat)(v:aa):Mod (r.set (jB t) v) (put t v av):=by
 intro u x ab
 rw[ZF] at ab
 rw[bf.fk]
 by_cases e:u=t
 · rw[if_pos e] at ab⊢;cases ab;rfl
 · rw[if_neg e] at ab⊢;exact h u x ab
theorem Mod.del{r:bf}{av:Env}(h:Mod r av)(t:Nat)(v:aa):Mod (r.set (jB t) v) (del t av):=by
 intro u x ab
 rw[J2] at ab
 rw[bf.fk]
 by_cases e:u=t
 · rw[if_pos e] at ab;cases ab
 · rw[if_neg e] at ab⊢;exact h u x ab
theorem J3(av:Env)(t:Nat)(v:aa):∀l,gk t (qa av l)=some v->gk t av=some v
 |[],h=>by simp[qa,gk] at h
 |u::l,h=>by
  simp only[qa] at h
  cases hu:gk u av with
  |none=>rw[hu] at h;exact J3 av t v l h
  |some x=>
   rw[hu] at h
   simp only[gk] at h
   rcases yp t u with⟨e,ag⟩|⟨e,ag⟩
   · rw[ag] at h;rw[e,hu];exact h
   · rw[ag] at h;exact J3 av t v l h
theorem Mod.qa{r:bf}{av:Env}(h:Mod r av)(l:List Nat):Mod r (qa av l):=λt v aI=>h t v (J3 av t v l aI)
theorem Ay{av:Env}(hm:Mod r av){a:Acc}(h:sl m env av a=some v):ed m env r a=v:=by
 cases a with
 |env j=>simp only[sl] at h;simp only[ed,h,Option.getD_some]
 |o3 p=>simp only[sl] at h;simp only[ed];rw[<-Qd p];exact hm _ _ h
 |val x=>cases h;rfl
section
variable {P:Program}
theorem wF(ak:nJ P o g h v):dg P o g h=.val v h:=by
 obtain⟨dst,op,type,pos,after,guard⟩:=o
 cases op<;>simp only[nJ] at ak<;>(try exact ak.elim)
 case load t a=>
  split at ak
  · rename_i b off n aB a_ aT
    simp only[dg,aB,a_,ak,hv]
  · rename_i b off n aB a_ aT
    split at ak
    · simp only[dg,aB,a_,aT,ak]
    · exact ak.elim
  · exact ak.elim
 case binOp op t x y yt=>
  split at ak
  · rename_i k a k' b ab bH
    split at ak
    · simp only[dg,ab,bH,hs,ak,hv]
    · simp only[dg,ab,bH,hs,ak,hv]
    · rename_i hb hH
      split at ak
      · rename_i ai
        have g7:k=k':=of_decide_eq_true ai
        simp only[dg,ab,bH,hs]
        cases op<;>first|exact absurd rfl hb|exact absurd rfl hH|(simp only[if_pos g7,ak,hv])
      · exact ak.elim
  · rename_i a b ab bH
    simp only[dg,ab,bH,hs,ak,hv]
  · simp only[dg,ak,hv]
 case unOp op t x=>
  split at ak
  · rename_i k n ab;simp only[dg,ab,ak]
  · rename_i k n ab;simp only[dg,ab,ak,hv]
  · exact ak.elim
 case slice t x lo hi mx=>simp only[dg,ak,hv]
 case index t x i=>
  split at ak
  · rename_i s n hu ab hi
    unfold eJ at ak
    simp only[dg,hu,ab,hi]
    split at ak
    · rename_i iP ag;cases ak;simp only[ag]
    · cases ak
  · rename_i m e cs n hu ab hi
    split at ak
    · rename_i sz bQ
      simp only[dg,hu,ab,hi,bQ,if_pos ak.1,ak.2,hv]
    · exact ak.elim
  · exact ak.elim
 case indexAddr t x i=>
  split at ak
  · rename_i m e b off n hu ab hi
    split at ak
    · rename_i sz bQ
      simp only[dg,hu,ab,hi,bQ,if_pos ak.1,ak.2]
    · exact ak.elim
  · rename_i e b off m c n hu ab hi
    split at ak
    · rename_i sz bQ
      simp only[dg,hu,ab,hi,bQ,if_pos ak.1,ak.2]
    · exact ak.elim
  · exact ak.elim
 case lookup t x i ok=>simp only[dg,ak,hv]
 case entry it=>simp only[dg,ak,hv]
 case convert src dst x=>simp only[dg,ak]
 case call c=>
  split at ak
  · rename_i x t ll je aI;simp only[dg,ll,je,kX,aI,ak,hv]
  · rename_i x t ll je aI;simp only[dg,ll,je,kX,aI,ak,hv]
  · rename_i x l _ ll je;simp only[dg,ll,je,kX,ak,hv]
  · rename_i x l _ ll je;simp only[dg,ll,je,kX,ak,hv]
  · rename_i x t ll je aI
    simp only[dg,ll,je]
    simp only[kX,aI] at ak⊢
    exact ak
  · exact ak.elim
theorem Qe:∀(n:Nat) (cs cq:List aa),gK n [aa.bad] cs=some cq->False
 |0,[],_,h=>by simp[gK] at h
 |0,_::_,_,h=>by simp[gK,aa.dJ] at h
 |_+1,[],_,h=>by simp[gK] at h
 |n+1,c::cs,cq,h=>by
  simp only[gK] at h
  split at h
  · rename_i r aj;exact Qe n cs r aj
  · cases h
theorem ZG{b off:Nat}(ah:aJ.storeCells h b off (aa.cells .bad)=some ay):False:=by
 unfold aJ.storeCells at ah
 split at ah
 · split at ah
   · split at ah
     · rename_i a3;exact Qe _ _ _ a3
     · cases ah
   · cases ah
 · cases ah
theorem J4(ak:As P o g h v ay):dg P o g h=.val v ay:=by
 obtain⟨dst,op,type,pos,after,guard⟩:=o
 cases op<;>simp only[As] at ak<;>(try exact ak.elim)
 case store t a x=>
  split at ak
  · rename_i b off aB
    obtain⟨J,ae,rfl⟩:=ak
    simp only[dg,aB]
    rw[J]
    have ag:g x≠ .bad:=λag=>by
     rw[ag] at ae
     exact ZG ae
    cases m5:g x<;>first|exact absurd m5 ag|(rw[m5] at ae;simp[ae,uo])
  · exact ak.elim
 case convert src dst x=>simp only[dg,ak]
 case mapUpdate t m k x=>obtain⟨J,rfl⟩:=ak;simp only[dg,J,uo]
 case insert t m k x=>obtain⟨J,rfl⟩:=ak;simp only[dg,J,uo]
 case mapEntry t m k=>simp only[dg,ak,oi]
 case entryStore t m s x=>obtain⟨J,rfl⟩:=ak;simp only[dg,J,uo]
 case next it isStr=>simp only[dg,ak,oi]
 case range t x=>
  split at ak
  · rename_i kt iX hu
    unfold P7 at ak
    split at ak
    · rename_i m aB
      split at ak
      · rename_i es c hm
        cases ak
        simp only[dg,hu,aB,hm]
      · cases ak
    · cases ak
  · exact ak.elim
 case makeSlice t l c=>
  unfold P6 at ak
  simp only[dg]
  split at ak
  · rename_i e th c' hu aA CH
    split at ak
    · rename_i i z hi bm
      simp only[hu,aA,CH,hi,bm]
      split at ak
      · rename_i m2
        rw[if_pos m2]
        split at ak
        · rename_i b ar aT;cases ak;simp only[aT]
        · cases ak
      · cases ak
    · cases ak
  · cases ak
 case call c=>
  split at ak
  · rename_i x y t ll je aI;simp only[dg,ll,je,kX,aI,ak,oi]
  · rename_i x y t ll je aI;simp only[dg,ll,je,kX,aI,ak,oi]
  · rename_i x t ll je aI;simp only[dg,ll,je,kX,aI,ak,oi]
  · rename_i x y t ll je aI;simp only[dg,ll,je,kX,aI,ak,oi]
  · rename_i x y t ll je aI;simp only[dg,ll,je,kX,aI,ak,oi]
  · exact ak.elim
variable {inR:Bool} {call:e0}
theorem Qf{pos:String}{f:ht}{q:cm}{ah:List Hint}{y:jf qb}(ab:F6 call pos f args d q h ah=.dr y)(ak:ei y.cs):BQ d q (call f args h)=y.res.res:=by
 unfold F6 at ab
 split at ab
 · cases ab;rw[ak.1];rfl
 · cases ab;rw[ak.1];rfl
 · cases ab
theorem ZH{q:cm}{ah:List Hint}{y:jf qb}(ab:JV P inR call o g d q h ah=.dr y)(ak:ei y.cs):
  e4 P inR call none o g d q h=y.res.res:=by
 unfold JV at ab
 unfold e4
 simp only[fj]
 split at ab
 · cases ab
   rw[wF ak.1];rfl
 · split at ab
   · rename_i e x e3 bk
     cases ab
     have J:(g x).cells.all aa.dJ=true:=ak.1.h
     have he:o.op=.box e x:=by
      unfold P8 at bk
      split at bk
      · split at bk
        · rename_i he;cases bk;exact he
        · cases bk
      · cases bk
     have:dg P o g h=.val (.ptr h.n 0) (h.push (.cells (g x).cells e .own 0 0)):=by
      unfold dg;rw[he];simp only[newRow,J]
     rw[this];rfl
   · split at ab
     · split at ab
       · rename_i g_;cases ab;rw[g_];rfl
       · rename_i g_;cases ab;rw[g_];rfl
       · rename_i g_;rw[g_];exact Qf ab ak
       · rename_i g_;rw[g_];exact Qf ab ak
       · rename_i z g_
         split at ab
         · cases ab
         · cases ab;rw[g_];rfl
       · rename_i g_
         split at ab
         · cases ab
         · split at ab
           · cases ab;rw[g_];rfl
           · cases ab;rw[g_];rfl
           · cases ab;rw[g_];rfl
       · cases ab
     · split at ab
       · cases ab
         rw[wF ak.1];rfl
       · cases ab
     · split at ab
       · cases ab
         rw[J4 ak.1];rfl
       · cases ab
theorem Qg{q:cm}{ah:List Hint}{y:jf qb}(ab:F7 P inR call o g d q h ah=.dr y)(ak:ei y.cs):
  e4 P inR call none o g d q h=y.res.res:=by
 unfold F7 at ab
 cases a3:JW o g d q h ah with
 |none=>rw[a3] at ab;exact ZH ab ak
 |some z=>
  rw[a3] at ab
  simp only at ab
  subst ab
  unfold JW at a3
  split at a3
  · rename_i hn a b gz
    split at a3
    · rename_i iP aB
      split at a3
      · cases a3
        obtain⟨rfl,_⟩:=ak
        unfold e4 dg
        simp[fj,gz,aB,qb.res]
      · cases a3
        obtain⟨rfl,_⟩:=ak
        unfold e4 dg
        simp[fj,gz,aB,qb.res]
      · cases a3
    · cases a3
  · cases a3
theorem Az(hw:fj gd=some true)(o:Oper)(g:Operand->aa)(d:List cc)(q:cm)(h:I):e4 P inR call gd o g d q h=e4 P inR call none o g d q h:=by
 unfold e4
 rw[hw]
 rfl
theorem CV(hw:fj gd=some false)(o:Oper)(g:Operand->aa)(d:List cc)(q:cm)(h:I):e4 P inR call gd o g d q h=.ok (.aF []) d q h:=by
 unfold e4
 simp only[hw]
theorem CW{q:cm}{ah:List Hint}{y:jf qb}(ab:At P inR call gd o g d q h ah=.dr y)(ak:ei y.cs):
  e4 P inR call gd o g d q h=y.res.res:=by
 unfold At at ab
 split at ab
 · exact Qg ab ak
 · rename_i fG b
   split at ab
   · rename_i c hb
     split at ab
     · rename_i tb
       split at ab
       · rename_i s kI hH eF
         cases ab
         obtain⟨rfl,mC⟩:=ak
         rw[Az (by simp only[fj];rw[tb])]
         exact(Qg eF mC:)
       · cases ab
     · rename_i tb
       cases ab
       obtain⟨rfl,_⟩:=ak
       rw[CV (by simp only[fj];rw[tb])];rfl
   · cases ab
 · cases ab
   rw[CV rfl];rfl
 · cases ab
variable {need:Nat}
theorem Ge{av:Env}(hm:Mod r av){loc:List (Nat×Acc)}(ai:Au P need m env av loc o=true):∀x∈o.op.operands,ed m env r (c7 P need loc x)=nK P need m env av loc x:=by
 intro x ab
 unfold Au at ai
 rw[List.all_eq_true] at ai
 have:=ai x (by simpa using ab)
 obtain⟨v,aW⟩:=Option.isSome_iff_exists.1 this
 unfold nK
 rw[aW,Ay hm aW];rfl
theorem Qh{r:bf}{av:Env}(hm:Mod r av):∀(l:List Step) (env:List aa) (d:List cc) (q:cm) (h:I) (ah:List Hint) (y:jf pV),F8 P need inR call av l env d q h ah=.dr y->ei y.cs->
  mq P need inR call r l env d q h=y.res
 |[],env,d,q,h,ah,y,ab,ak=>by cases ab;rfl
 |s::rest,env,d,q,h,ah,y,ab,ak=>by
  simp only[F8] at ab
  split at ab
  · cases ab
  · rename_i ai
    split at ab
    · cases ab
    · rename_i gd g0
      have key:∀z,e4 P inR call gd s.o (nK P need s.m env av s.loc) d q h=z->mq P need inR call r (s::rest) env d q h=match z with
        |.ok v bT bZ ay=>mq P need inR call r rest (v::env) bT bZ ay
        |.aK v bT bZ ay=>.aK v bT bZ ay
        |.fail w=>.fail w:=λz bm=>by
       simp only[mq]
       rw[<-bm,<-yi (Ge hm ai)]
       unfold P9 at g0
       cases F2:s.guard with
       |none=>rw[F2] at g0;cases g0;rfl
       |some p=>
        obtain⟨a,b⟩:=p
        rw[F2] at g0
        simp only at g0
        cases aW:sl s.m env av a with
        |none=>rw[aW] at g0;cases g0
        |some v=>rw[aW] at g0;cases g0;simp only[Ay hm aW];rfl
      split at ab
      · rename_i v bT bZ ay kI hb gU
        split at ab
        · rename_i z CX hH vX
          cases ab
          obtain⟨a9,cI⟩:=ei.append ak
          have J:=CW gU a9
          have l5:e4 P inR call gd s.o (nK P need s.m env av s.loc) d q h=.ok v bT bZ ay:=J
          rw[key _ l5]
          exact(Qh hm rest (v::env) bT bZ ay hb _ vX cI:)
        · cases ab
      · rename_i v bT bZ ay kI hb gU
        cases ab
        have J:=CW gU ak
        have l5:e4 P inR call gd s.o (nK P need s.m env av s.loc) d q h=.aK v bT bZ ay:=J
        rw[key _ l5]
      · cases ab
theorem J5{m:Nat}{env:List aa}{jO:bf}{ia:Env}(hm:Mod jO ia):∀(l:List (Nat×Acc)) (r:bf) (av:Env),Mod r av->Mod (uq need m env jO l r) (yn need m env ia l av)
 |[],r,av,h=>h
 |(t,a)::l,r,av,h=>by
  have bM:=J5 (m:=m) (env:=env) hm l r av h
  simp only[uq,yn]
  cases Nat.testBit need t with
  |false=>exact bM
  |true=>
   simp only
   cases aB:sl m env ia a with
   |some v=>simp only;rw[Ay hm aB];exact bM.put t v
   |none=>simp only;exact bM.del t _
theorem J6:∀(l:List (Nat×Acc)) (r:bf) (av:Env),Mod r av->Mod (zU l r) (F9 l av)
 |[],r,av,h=>h
 |(t,a)::l,r,av,h=>(J6 l r av h).del t _
mutual
theorem yq:∀v:aa,v.sound=true->aa.beq v v=true
 |.bool b,_=>by simp[aa.beq]
 |.int k n,_=>by simp[aa.beq,jM]
 |.str s,_=>by simp[aa.beq,o_]
 |.au,_=>rfl
 |.ptr a i,_=>by simp[aa.beq]
 |.ao,_=>rfl
 |.slice a i n c,_=>by cases c<;>simp[aa.beq,dn.beq]
 |.jA,_=>rfl
 |.map a,_=>by simp[aa.beq]
 |.lg,_=>rfl
 |.fn f a b,h=>by
  simp only[aa.sound,Bool.and_eq_true] at h
  simp only[aa.beq,CY a h.1,CY b h.2,Bool.and_true]
  simp
 |.gJ a,_=>by simp[aa.beq]
 |.c3,_=>rfl
 |.iface t v,h=>by
  simp only[aa.sound] at h
  simp only[aa.beq,yq v h,Bool.and_true]
  simp
 |.agg l,h=>by
  simp only[aa.sound] at h
  simp only[aa.beq,CY l h]
 |.aF l,h=>by
  simp only[aa.sound] at h
  simp only[aa.beq,CY l h]
 |.bad,h=>by simp[aa.sound] at h
theorem CY:∀l:List aa,tv l=true->aa.o5 l l=true
 |[],_=>rfl
 |a::l,h=>by
  simp only[tv,Bool.and_eq_true] at h
  simp only[aa.o5,yq a h.1,CY l h.2,Bool.and_true]
end
theorem J7{av:Env}(hm:Mod r av)(h:CT P need ops n env av s=some gd):gY P need ops r n env s=gd:=by
 unfold CT at h
 unfold gY
 split at h
 · rename_i aB;rw[aB];cases h;rfl
 · rename_i a b aB
   rw[aB]
   split at h
   · rename_i v aW
     cases h
     simp only[Ay hm aW]
   · cases h
def ZI(P:Program)(need:Nat)(inR:Bool)(call:e0)(ops:Array Oper)(r:bf)(bE:Nat)(s:DStep)(st cv:l4):Prop:=
 ∀rest,h4 P need inR call ops r bE (s::rest) st.env st.d st.q st.h st.bp=h4 P need inR call ops r bE rest cv.env cv.d cv.q cv.h cv.bp
theorem Qi{av:Env}(hm:Mod r av){bE:Nat}{st:l4}{ah:List Hint}{y:jf l4}(ab:F_ P need inR call ops av bE s st ah=.dr y)(ak:ei y.cs):ZI P need inR call ops r bE s st y.res:=by
 intro rest
 unfold F_ at ab
 split at ab
 · cases ab
 · rename_i ai
   have aB:=Ge hm ai
   split at ab
   · cases ab
   · rename_i gd g0
     have aH:=J7 hm g0
     split at ab
     · rename_i jg
       have a_:=Cy (P:=P) (o:=s.o.op) (b:=bE+s.i) aB
       simp only[h4,jg,aH]
       rw[a_]
       unfold Qb at ab
       split at ab
       · split at ab
         · cases ab
           have kK:=Qa ak.1
           simp only[fj,kK]
         · split at ab
           · rename_i v o kK
             cases ab
             simp only[fj,kK]
           · cases ab
       · split at ab
         · rename_i x c _ ej hb
           split at ab
           · rename_i J8
             split at ab
             · rename_i v o kK
               cases ab
               obtain⟨rfl,_⟩:=ak
               simp only[fj,J8,kK]
             · cases ab
           · rename_i J8
             cases ab
             obtain⟨rfl,_⟩:=ak
             simp only[fj,J8]
         · cases ab
       · cases ab
         simp only[fj]
       · cases ab
     · rename_i jg
       simp only[h4,jg,aH]
       rw[yi aB]
       split at ab
       · rename_i v bT bZ ay kI hb gU
         cases ab
         have J:=CW gU ak
         have l5:e4 P inR call gd s.o (nK P need s.i st.env av s.loc) st.d st.q st.h=.ok v bT bZ ay:=J
         rw[l5]
       · cases ab
       · cases ab
     · rename_i jg
       split at ab
       · cases ab
       · rename_i ou
         simp only[h4,jg,aH]
         rw[yi aB]
         split at ab
         · rename_i v bT bZ ay kI hb gU
           cases ab
           have J:=CW gU ak
           have l5:e4 P inR call gd s.o (nK P need s.i st.env av s.loc) st.d st.q st.h=.ok v bT bZ ay:=J
           rw[l5]
           cases dp:st.bp with
           |nil=>rfl
           |cons a l=>
            obtain⟨e,m,ar⟩:=a
            rw[dp] at ou
            simp only[yo] at ou
            simp only[ou]
         · cases ab
         · cases ab
theorem Qj{ops:Array Oper}{r:bf}{av:Env}(hm:Mod r av){bE:Nat}:∀(l:List DStep) (st:l4) (ah:List Hint) (y:jf l4),Ga P need inR call ops av bE l st ah=.dr y->ei y.cs->
  h4 P need inR call ops r bE l st.env st.d st.q st.h st.bp=.ok y.res.env y.res.d y.res.q y.res.h y.res.bp
 |[],st,ah,y,ab,ak=>by cases ab;rfl
 |s::rest,st,ah,y,ab,ak=>by
  simp only[Ga] at ab
  split at ab
  · rename_i st1 kI hb J
    split at ab
    · rename_i gl CX hH ae
      cases ab
      obtain⟨a9,cI⟩:=ei.append ak
      rw[Qi hm J a9 rest]
      exact(Qj hm rest st1 hb ⟨gl,CX,hH⟩ ae cI:)
    · cases ab
  · cases ab
theorem ZJ(ak:ei (CU P o g h v)):∃v' ay,dg P o g h=.val v' ay/\aa.beq v' v=true:=by
 unfold CU at ak
 split at ak
 · rename_i x a b a3
   obtain⟨J,ae,_⟩:=ak
   refine⟨v,h,?_,yq v J⟩
   unfold Qc at a3
   split at a3
   · rename_i c a6 jb bg
     split at a3
     · rename_i et Gf
       cases a3
       cases x<;>simp only[dg,bg,Gf]<;>rw[<-ae]<;>rfl
     · cases a3
   · cases a3
 split at ak
 · exact⟨v,h,wF ak.2.1,yq v ak.1⟩
 split at ak
 · exact⟨v,h,wF ak.2.1,yq v ak.1⟩
 · split at ak
   · rename_i v' ay he
     obtain⟨J,rfl,_⟩:=ak
     exact⟨v',ay,he,yq v' J⟩
   · exact ak.1.elim
theorem Qk{av:Env}(hm:Mod r av)(ak:ei (JY P need ops av n env s v h)):iY P need ops r n env s v h=true:=by
 unfold JY at ak
 unfold iY
 split at ak
 · rename_i gd ai g0
   rw[J7 hm g0]
   have aB:=Ge hm ai
   have key:ei (CU P s.o (nK P need n env av s.loc) h v)->(match dg P s.o (λx=>ed n env r (c7 P need s.loc x)) h with
     |.val v' _=>aa.beq v' v
     |_=>false)=true:=λaA=>by
    rw[Cx s.o h aB]
    obtain⟨v',ay,aG,aE⟩:=ZJ aA
    rw[aG];exact aE
   split at ak
   · simp only[fj];exact key ak
   · rename_i x b
     simp only[fj]
     obtain⟨ak,_⟩:=ak
     unfold lookW at ak
     split at ak
     · rw[ak]
     · cases OM:(x==b) with
       |false=>rfl
       |true=>exact key ak
   · rfl
   · exact ak.1.elim
 · exact ak.1.elim
theorem Gg(nx:Option Nat)(h:I)(bp:ri):nD P need ops r n env s v nx h bp=
  ((match uE s nx bp with|true=>true|false=>iY P need ops r n env s v h||iY P need ops r n env s v (pW P need ops r n env s nx h))&&(match bp with|[]=>true|(e,_,ay)::rest=>nD P need ops r n env s v (some e) ay rest)):=by
 cases bp<;>(rw[nD.eq_def];rfl)
theorem J9{ops:Array Oper}{r:bf}{av:Env}(hm:Mod r av){n:Nat}{env:List aa}{s:DStep}{v:aa}:∀(bp:ri) (nx:Option Nat) (h:I),ei (Ax P need ops av n env s v nx h bp)->nD P need ops r n env s v nx h bp=true
 |[],nx,h,ak=>by
  rw[Gg]
  unfold Ax at ak
  obtain⟨a9,_⟩:=ei.append ak
  cases ag:uE s nx [] with
  |true=>rfl
  |false=>rw[ag] at a9;simp only[Bool.and_true];rw[Qk hm a9,Bool.true_or]
 |(e,m,ay)::rest,nx,h,ak=>by
  rw[Gg]
  unfold Ax at ak
  obtain⟨a9,cI⟩:=ei.append ak
  have bM:=J9 hm rest (some e) ay cI
  cases ag:uE s nx ((e,m,ay)::rest) with
  |true=>simp only[Bool.true_and];exact bM
  |false=>
   rw[ag] at a9
   simp only
   rw[Qk hm a9,Bool.true_or,Bool.true_and];exact bM
theorem Ql{ops:Array Oper}{r:bf}{av:Env}(hm:Mod r av){n:Nat}{env:List aa}{h:I}{bp:ri}:∀(l:List DStep),ei (Gc P need ops av n env h bp l)->oj P need ops r n env none h bp l=true
 |[],_=>rfl
 |s::rest,ak=>by
  simp only[Gc] at ak
  obtain⟨a9,cI⟩:=ei.append ak
  simp only[oj]
  rw[Ql hm rest cI,Bool.and_true]
  cases J:Nat.blt s.i n with
  |false=>rfl
  |true=>
   rw[J] at a9
   cases ae:kindOf P s.o.op with
   |pure=>rw[ae] at a9;exact J9 hm bp none h a9
   |alloc=>rfl
   |fq=>rfl
theorem ZK{av:Env}(hm:Mod r av){bE:Nat}{rest:List DStep}{st:l4}{ah:List Hint}{y:jf (aa×l4)}(ab:JX P need inR call ops av s rest st ah=.dr y)(ak:ei y.cs):
  h4 P need inR call ops r bE (s::rest) st.env st.d st.q st.h st.bp=.aK y.res.1 y.res.2.env y.res.2.d y.res.2.q y.res.2.h y.res.2.bp:=by
 unfold JX at ab
 split at ab
 · cases ab
 · rename_i ai
   have aB:=Ge hm ai
   split at ab
   · cases ab
   · rename_i gd g0
     have aH:=J7 hm g0
     split at ab
     · rename_i jg
       split at ab
       · cases ab
       · rename_i ou
         simp only[h4,jg,aH]
         rw[yi aB]
         split at ab
         · rename_i v bT bZ ay kI hb gU
           split at ab
           · rename_i gZ
             cases ab
             have J:=CW gU ak
             have l5:e4 P inR call gd s.o (nK P need s.i st.env av s.loc) st.d st.q st.h=.aK v bT bZ ay:=J
             rw[l5]
             cases dp:st.bp with
             |nil=>simp only[gZ]
             |cons a l=>
              obtain⟨e,m,ar⟩:=a
              rw[dp] at ou
              simp only[yo] at ou
              simp only[ou,gZ]
           · cases ab
         · cases ab
     · cases ab
theorem Qm{ops:Array Oper}{r:bf}{av:Env}(hm:Mod r av){bE:Nat}:∀(l:List DStep) (st:l4) (ah:List Hint) (y:jf (aa×l4)),Gb P need inR call ops av bE l st ah=.dr y->ei y.cs->
  h4 P need inR call ops r bE l st.env st.d st.q st.h st.bp=.aK y.res.1 y.res.2.env y.res.2.d y.res.2.q y.res.2.h y.res.2.bp
 |[],st,ah,y,ab,ak=>by cases ab
 |s::rest,st,ah,y,ab,ak=>by
  simp only[Gb] at ab
  split at ab
  · rename_i ej J
    cases ab
    exact ZK hm J ak
  · split at ab
    · rename_i st1 kI hb J
      split at ab
      · rename_i gl CX hH ae
        cases ab
        obtain⟨a9,cI⟩:=ei.append ak
        rw[Qi hm J a9 rest]
        exact(Qm hm rest st1 hb ⟨gl,CX,hH⟩ ae cI:)
      · cases ab
    · cases ab
theorem Qn{ops:Array Oper}{r:bf}{av:Env}(hm:Mod r av){n:Nat}{env:List aa}{last:Option Nat}{h:I}{bp:ri}:∀(l:List DStep),ei (Gd P need ops av n env last h bp l)->oj P need ops r n env last h bp l=true
 |[],_=>rfl
 |s::rest,ak=>by
  simp only[Gd] at ak
  obtain⟨a9,cI⟩:=ei.append ak
  simp only[oj]
  rw[Qn hm rest cI,Bool.and_true]
  cases J:Nat.blt s.i n with
  |false=>rfl
  |true=>
   rw[J] at a9
   cases ae:kindOf P s.o.op with
   |pure=>rw[ae] at a9;exact J9 hm bp last h a9
   |alloc=>rfl
   |fq=>rfl
theorem ZL{rd:Option Nat}{st:bD}{ah:List Hint}{y:jf (cl×bD)}(ab:JZ P need rd.isSome call ops st ah=.dr y)(ak:ei y.cs):dU P need rd call (.region id ops true) st y.res.1 y.res.2:=by
 unfold JZ at ab
 split at ab
 · rename_i v env d q h e m h0 bp kI hb aH
   cases ab
   obtain⟨a9,cI⟩:=ei.append ak
   intro r hm
   have J:=Qm hm _ _ _ _ aH a9
   have ae:=Qn hm _ cI
   simp only at J
   refine⟨_,?_,J6 _ _ _ hm⟩
   have l5:h4 P need rd.isSome call ops r st.h.n (fW ops.toList 0 [] []) [] st.d st.q ⟨st.h.t,st.h.n+ops.size⟩ []=.aK v env d q h ((e,m,h0)::bp):=J
   simp only[eR,xF,l5,ae,ur]
 · cases ab
 · cases ab
theorem ZM{rd:Option Nat}{st:bD}{ah:List Hint}{y:jf (cl×bD)}(ab:J0 P need rd.isSome call ops st ah=.dr y)(ak:ei y.cs):dU P need rd call (.region id ops true) st y.res.1 y.res.2:=by
 unfold J0 at ab
 split at ab
 · rename_i env d q h bp kI hb aH
   cases ab
   obtain⟨a9,cI⟩:=ei.append ak
   intro r hm
   have J:=Qj hm _ _ _ _ aH a9
   have ae:=Ql hm _ cI
   simp only at J
   refine⟨_,?_,J5 hm _ _ _ hm⟩
   have l5:h4 P need rd.isSome call ops r st.h.n (fW ops.toList 0 [] []) [] st.d st.q ⟨st.h.t,st.h.n+ops.size⟩ []=.ok env d q h bp:=J
   simp only[eR,xF,l5,ae,ur]
 · exact ZL ab ak
variable {rd:Option Nat}
theorem tw:∀(c:Code) (st:bD) (ah:List Hint) (y:jf (cl×bD)),ov P need rd call c st ah=.dr y->ei y.cs->dU P need rd call c st y.res.1 y.res.2
 |.skip,st,ah,y,ab,ak=>by cases ab;exactλr aj=>⟨r,rfl,aj⟩
 |.label _,st,ah,y,ab,ak=>by cases ab;exactλr aj=>⟨r,rfl,aj⟩
 |.exit id,st,ah,y,ab,ak=>by cases ab;exactλr aj=>⟨r,rfl,aj⟩
 |.ret,st,ah,y,ab,ak=>by cases ab;exactλr aj=>⟨r,rfl,aj⟩
 |.scope b,st,ah,y,ab,ak=>tw b st ah y ab ak
 |.region id ops draw,st,ah,y,ab,ak=>by
  simp only[ov] at ab
  cases draw with
  |true=>exact ZM ab ak
  |false=>
   simp only at ab
   split at ab
   · rename_i x kI hb dp
     split at ab
     · rename_i bt J_
       cases ab
       intro r aj
       have J:=Qh aj _ _ _ _ _ _ _ dp ak
       simp only at J
       simp only[eR,J]
       cases x with
       |ok env d q h=>cases J_;exact⟨_,rfl,J5 aj _ _ _ aj⟩
       |aK v d q h=>cases J_;exact⟨_,rfl,J6 _ _ _ aj⟩
       |fail w=>cases J_
     · cases ab
   · cases ab
 |.seq a b,st,ah,y,ab,ak=>by
  simp only[ov] at ab
  split at ab
  · rename_i st1 kI hb a_
    split at ab
    · rename_i b3 CX hH ag
      cases ab
      obtain⟨a9,cI⟩:=ei.append ak
      intro r aj
      obtain⟨bt,J,cR⟩:=tw a st ah _ a_ a9 r aj
      obtain⟨b3,ae,gg⟩:=tw b st1 hb _ ag cI bt cR
      exact⟨b3,by simp only at J ae;simp only[eR,J,vJ,ae],gg⟩
    · cases ab
  · rename_i dk
    intro r aj
    obtain⟨bt,J,cR⟩:=tw a st ah y ab ak r aj
    refine⟨bt,?_,cR⟩
    simp only[eR,J]
    refine Ab (λb0=>?_)
    obtain⟨⟨aG,st1⟩,kI,hb⟩:=y
    simp only at b0
    subst b0
    exact dk _ _ _ ab
 |.cond c a b,st,ah,y,ab,ak=>by
  simp only[ov] at ab
  split at ab
  · rename_i x aB
    split at ab
    · split at ab
      · rename_i bt kI hb a_
        cases ab
        obtain⟨rfl,a9⟩:=ak
        intro r aj
        obtain⟨bt,J,cR⟩:=tw a st _ _ a_ a9 r aj
        exact⟨bt,by simp only at J;simp only[eR,Ay aj aB,J],cR⟩
      · cases ab
    · split at ab
      · rename_i bt kI hb a_
        cases ab
        obtain⟨rfl,a9⟩:=ak
        intro r aj
        obtain⟨bt,J,cR⟩:=tw b st _ _ a_ a9 r aj
        exact⟨bt,by simp only at J;simp only[eR,Ay aj aB,J],cR⟩
      · cases ab
    · cases ab
  · cases ab
 |.block id b,st,ah,y,ab,ak=>by
  simp only[ov] at ab
  split at ab
  · rename_i i st1 kI hb ag
    split at ab
    · rename_i hi
      cases ab
      obtain rfl:=Nat.eq_of_beq_eq_true hi
      intro r aj
      obtain⟨bt,J,cR⟩:=tw b st ah _ ag ak r aj
      exact⟨bt,by simp only at J;simp only[eR,J,if_true],cR⟩
    · rename_i hi
      cases ab
      intro r aj
      obtain⟨bt,J,cR⟩:=tw b st ah _ ag ak r aj
      have dk:¬i=id:=by intro b0;subst b0;simp at hi
      exact⟨bt,by simp only at J;simp only[eR,J,if_neg dk],cR⟩
  · rename_i dk
    intro r aj
    obtain⟨bt,J,cR⟩:=tw b st ah y ab ak r aj
    refine⟨bt,?_,cR⟩
    obtain⟨⟨aG,st1⟩,kI,hb⟩:=y
    simp only at J
    simp only[eR,J]
    cases aG<;>first|rfl|exact absurd ab (dk _ _ _ _)
 |.loop b,st,ah,y,ab,ak=>by
  simp only[ov] at ab
  split at ab
  · cases ab;exact ak.1
  · cases ab
 |.rangeFunc f ps as dG,st,ah,y,ab,ak=>by
  simp only[ov] at ab
  split at ab
  · cases ab;exact ak.1
  · cases ab
 |.goto _,st,ah,y,ab,ak=>by cases ab
 |.refuse _,st,ah,y,ab,ak=>by cases ab
end
def sub:Code->List Nat->Code
 |c,[]=>c
 |.seq a _,0::l=>sub a l
 |.seq _ b,_::l=>sub b l
 |.cond _ a _,0::l=>sub a l
 |.cond _ _ b,_::l=>sub b l
 |.block _ b,_::l=>sub b l
 |.loop b,_::l=>sub b l
 |.scope b,_::l=>sub b l
 |.rangeFunc _ _ a _,0::l=>sub a l
 |.rangeFunc _ _ _ b,_::l=>sub b l
 |c,_::_=>c
def hc(fn:Func):Code:=fn.body.getD .skip
def kN:Env->Env->Prop
 |[],_=>True
 |(t,v)::l,av=>gk t av=some v/\kN l av
theorem kN.ok:∀{Γ2 av:Env},kN Γ2 av->∀t v,gk t Γ2=some v->gk t av=some v
 |[],av,_,t,v,h=>by simp[gk] at h
 |(u,x)::l,av,⟨J,ae⟩,t,v,h=>by
  simp only[gk] at h
  rcases yp t u with⟨e,ag⟩|⟨e,ag⟩
  · rw[ag] at h;cases h;rw[e];exact J
  · rw[ag] at h;exact kN.ok ae t v h
theorem Mod.sub{av Γ2:Env}(h:Mod r av)(ah:kN Γ2 av):Mod r Γ2:=λt v aI=>h t v (ah.ok t v aI)
section
variable {P:Program} {need:Nat} {rd:Option Nat} {call:e0}
def Gh(cx:List Nat):bw (jf (cl×bD))->Option (jf (cl×bD))
 |.dr ⟨(e,⟨av,d,q,h⟩),cs,[]⟩=>some ⟨(e,⟨qa av cx,d,q,h⟩),cs,[]⟩
 |_=>none
theorem ZN{st:bD}{ah:List Hint}{cv:bD}{cs:List Prop}(cx:List Nat)(ab:Gh cx (ov P need rd call c st ah)=some ⟨(e,cv),cs,[]⟩)(ak:ei cs):dU P need rd call c st e cv:=by
 unfold Gh at ab
 split at ab
 · rename_i aG j3 d1 aV J kI ZO
   cases ab
   intro r aj
   obtain⟨bt,J,cR⟩:=tw c st ah _ ZO ak r aj
   exact⟨bt,J,cR.qa cx⟩
 · cases ab
theorem dU.pre{st st1 cv:bD}(h:dU P need rd call c st e cv)(ah:kN st.av st1.av)(aH:st1.d=st.d)(bB:st1.q=st.q)(ar:st1.h=st.h):dU P need rd call c st1 e cv:=by
 intro r aj
 obtain⟨bt,J,cR⟩:=h r (aj.sub ah)
 exact⟨bt,by rw[aH,bB,ar];exact J,cR⟩
theorem dU.post{st cv:bD}{Γ2:Env}(h:dU P need rd call c st e cv)(ah:kN Γ2 cv.av):dU P need rd call c st e {cv with av:=Γ2}:=by
 intro r aj
 obtain⟨bt,J,cR⟩:=h r aj
 exact⟨bt,J,cR.sub ah⟩
def sm(P:Program)(need:Nat)(rd:Option Nat)(call:e0)(b:Code)(n:Nat)(st:bD)(e:cl)(cv:bD):Prop:=
 ∀r,Mod r st.av->∃r',s9 (eR P need rd call b) n r st.d st.q st.h=.ok e r' cv.d cv.q cv.h/\Mod r' cv.av
theorem sm.step{st st1 cv:bD}(h:dU P need rd call b st .nrm st1)(ae:sm P need rd call b n st1 e cv):sm P need rd call b (n+1) st e cv:=by
 intro r aj
 obtain⟨bt,aG,cR⟩:=h r aj
 obtain⟨b3,aE,gg⟩:=ae bt cR
 exact⟨b3,by simp only[s9,aG,vJ,aE],gg⟩
theorem sm.exit{st cv:bD}(h:dU P need rd call b st e cv)(he:e≠ .nrm):sm P need rd call b (n+1) st e cv:=by
 intro r aj
 obtain⟨bt,aG,cR⟩:=h r aj
 exact⟨bt,by simp only[s9,aG];exact Ab he,cR⟩
theorem Ka{f:bf->List cc->cm->I->lD}:∀{n m:Nat},n<=m->∀{r d q h e r' bT bZ ay},s9 f n r d q h=.ok e r' bT bZ ay->s9 f m r d q h=.ok e r' bT bZ ay
 |0,_,_,_,_,_,_,_,_,_,_,_,h=>by cases h
 |n+1,0,hle,_,_,_,_,_,_,_,_,_,_=>by omega
 |n+1,m+1,hle,r,d,q,h,e,r',bT,bZ,ay,ab=>by
  simp only[s9] at ab⊢
  cases aM:f r d q h with
  |fail w=>rw[aM] at ab;cases ab
  |ok aG bt d1 aV J=>
   rw[aM] at ab
   cases aG<;>simp only[vJ] at ab⊢ <;>first|exact Ka (by omega) ab|exact ab
theorem sm.run{st cv:bD}(h:sm P need rd call b n st e cv)(aT:n<=100000):dU P need rd call (.loop b) st e cv:=by
 intro r aj
 obtain⟨bt,aG,cR⟩:=h r aj
 exact⟨bt,by simp only[eR];exact Ka aT aG,cR⟩
def lN:Nat->List aa->Env
 |_,[]=>[]
 |i,v::l=>(i,v)::lN (i+1) l
theorem Qo(t:Nat)(v:aa):∀(l:List aa) (i:Nat),gk t (lN i l)=some v->i<=t/\t<i+l.length/\l[t-i]? =some v
 |[],i,h=>by simp[lN,gk] at h
 |x::l,i,h=>by
  simp only[lN,gk] at h
  rcases yp t i with⟨e,ag⟩|⟨e,ag⟩
  · rw[ag] at h;cases h;subst e;simp
  · rw[ag] at h
    obtain⟨J,ae,aq⟩:=Qo t v l (i+1) h
    refine⟨by omega,by simp;omega,?_⟩
    have:t-i=(t-(i+1))+1:=by omega
    rw[this];simpa using aq
theorem AA(args:List aa):Mod (vL 0 args .leaf) (lN 0 args):=by
 intro t v h
 obtain⟨J,ae,aq⟩:=Qo t v args 0 h
 rw[Jt,if_pos ⟨J,ae⟩,aq];rfl
def rj(P:Program)(need:Nat)(av:Env)(h:I)(x:ResultVar):Option aa:=
 match x with
 |.tmp t=>match Nat.testBit need t with
  |true=>gk t av
  |false=>none
 |.cell t ty=>match Nat.testBit need t with
  |true=>match gk t av with
   |none=>none
   |some p=>match p,oh P ty,eg P ty with
    |.ptr b off,some true,some n=>(match loadCells h b off n with|some cs=>some (.agg cs)|none=>none)
    |.ptr b off,some false,_=>aC h b off
    |_,_,_=>none
  |false=>none
theorem ZP{av:Env}(hm:Mod r av){x:ResultVar}(ab:rj P need av h x=some v):vM P need r h x=some v:=by
 cases x with
 |tmp t=>
  simp only[rj,vM] at ab⊢
  split at ab
  · rename_i ag
    rw[ag];simp only[hm t v ab]
  · cases ab
 |cell t ty=>
  simp only[rj,vM] at ab⊢
  split at ab
  · rename_i ag
    rw[ag]
    simp only
    cases aA:gk t av with
    |none=>rw[aA] at ab;simp at ab
    |some p=>rw[aA] at ab;rw[hm t p aA];exact ab
  · cases ab
def iw(P:Program)(need:Nat)(fn:Func)(av:Env)(h:I):Option aa:=
 match o6 (rj P need av h) fn.results.toList with
 |some [v]=>some v
 |some vs=>some (.aF vs)
 |none=>none
theorem Qp{av:Env}{r:bf}(hm:Mod r av){h:I}:∀(l:List ResultVar) (vs:List aa),o6 (rj P need av h) l=some vs->o6 (vM P need r h) l=some vs
 |[],vs,ab=>ab
 |x::l,vs,ab=>by
  simp only[o6] at ab⊢
  cases J:rj P need av h x with
  |none=>rw[J] at ab;simp at ab
  |some v=>
   rw[J] at ab
   cases ae:o6 (rj P need av h) l with
   |none=>rw[ae] at ab;simp at ab
   |some ws=>
    rw[ae] at ab
    rw[ZP hm J,Qp hm l ws ae];exact ab
theorem Gi{av:Env}(hm:Mod r av){fn:Func}(ab:iw P need fn av h=some v):vN P need fn r h=some v:=by
 unfold iw at ab
 unfold vN
 cases a_:o6 (rj P need av h) fn.results.toList with
 |none=>rw[a_] at ab;cases ab
 |some vs=>
  rw[a_] at ab
  rw[Qp hm _ _ a_];exact ab
variable {intr:Nat->List aa->I->Option (aa×I)}
theorem ZQ{fn:Func}(aM:P.funcs[f]? =some fn)(ag:fn.body=some c)(aT:e1 fn=need)(hi:intr f args h=none)(hle:Nat.ble args.length fn.ntmps=true)
  {av:Env}{q:cm}(dD:dU P need none (eA P intr n) c ⟨lN 0 args,[],.none,h⟩ e ⟨av,[],q,ay⟩)(he:e=.ret\/e=.nrm)(iG:iw P need fn av ay=some v):
  eA P intr (n+1) (.fn f) args h=.ret v ay:=by
 subst aT
 obtain⟨bt,J,cR⟩:=dD _ (AA args)
 have aj:=Gi cR iG
 simp only[eA,hi,ta,aM,ag,lF,hle,J]
 rcases he with rfl|rfl<;>simp only[xG,mr,aj]
theorem ZR{fn:Func}(aM:P.funcs[f]? =some fn)(ag:fn.body=some c)(aT:e1 fn=need)(hi:intr f args h=none)(hle:Nat.ble args.length fn.ntmps=true)
  {av:Env}{q:cm}(dD:dU P need none (eA P intr n) c ⟨lN 0 args,[],.none,h⟩ (.aK v) ⟨av,[],q,ay⟩):
  eA P intr (n+1) (.fn f) args h=.aK v ay:=by
 subst aT
 obtain⟨bt,J,cR⟩:=dD _ (AA args)
 simp only[eA,hi,ta,aM,ag,lF,hle,J,xG,mr]
abbrev a0(P:Program)(fn:Func)(rd:Option Nat)(call:e0)(path:List Nat)(st:bD)(e:cl)(cv:bD):Prop:=dU P (e1 fn) rd call (sub (hc fn) path) st e cv
abbrev Qq(P:Program)(fn:Func)(rd:Option Nat)(call:e0)(path:List Nat)(st:bD)(ah:List Hint):bw (jf (cl×bD)):=ov P (e1 fn) rd call (sub (hc fn) path) st ah
theorem ZS{fn:Func}{path:List Nat}{st:bD}{ah:List Hint}{cv:bD}{cs:List Prop}(cx:List Nat)(ab:Gh cx (Qq P fn rd call path st ah)=some ⟨(e,cv),cs,[]⟩)(ak:ei cs):a0 P fn rd call path st e cv:=ZN cx ab ak
end
theorem Qr:∀(c:Code) (x:Nat) (l:List Nat),sub c (x::l)=sub (sub c [x]) l
 |.seq a b,0,l=>by simp[sub]
 |.seq a b,_+1,l=>by simp[sub]
 |.cond _ a b,0,l=>by simp[sub]
 |.cond _ a b,_+1,l=>by simp[sub]
 |.rangeFunc _ _ a b,0,l=>by simp[sub]
 |.rangeFunc _ _ a b,_+1,l=>by simp[sub]
 |.block _ b,x,l=>by simp[sub]
 |.loop b,x,l=>by simp[sub]
 |.scope b,x,l=>by simp[sub]
 |.skip,x,l=>by cases l<;>simp[sub]
 |.region _ _ _,x,l=>by cases l<;>simp[sub]
 |.exit _,x,l=>by cases l<;>simp[sub]
 |.ret,x,l=>by cases l<;>simp[sub]
 |.label _,x,l=>by cases l<;>simp[sub]
 |.goto _,x,l=>by cases l<;>simp[sub]
 |.refuse _,x,l=>by cases l<;>simp[sub]
theorem pn(c:Code):∀(p l:List Nat),sub c (p++l)=sub (sub c p) l
 |[],l=>by simp[sub]
 |x::p,l=>by rw[List.cons_append,Qr,pn (sub c [x]) p l,<-Qr]
def wG:Code->Bool
 |.seq _ _=>true
 |_=>false
def CZ(id:Nat):Code->Bool
 |.block i _=>Nat.beq i id
 |_=>false
def C0:Code->Bool
 |.loop _=>true
 |_=>false
theorem Qs(h:wG c=true):c=.seq (sub c [0]) (sub c [1]):=by
 cases c<;>simp[wG,sub] at h⊢
theorem Qt(h:CZ id c=true):c=.block id (sub c [0]):=by
 cases c<;>simp only[CZ] at h<;>(try (cases h;done))
 obtain rfl:=Nat.eq_of_beq_eq_true h
 simp[sub]
theorem ZT(h:C0 c=true):c=.loop (sub c [0]):=by
 cases c<;>simp[C0,sub] at h⊢
section
variable {P:Program} {rd:Option Nat} {call:e0} {fn:Func}
theorem dU.seq{need:Nat}{a:Code}{st st1 fC:bD}(J:dU P need rd call a st .nrm st1)(ae:dU P need rd call b st1 e fC):dU P need rd call (.seq a b) st e fC:=by
 intro r aj
 obtain⟨bt,aG,cR⟩:=J r aj
 obtain⟨b3,aE,gg⟩:=ae bt cR
 exact⟨b3,by simp only[eR,aG,vJ,aE],gg⟩
theorem dU.yr{need:Nat}{a:Code}{st st1:bD}(J:dU P need rd call a st e st1)(he:e≠ .nrm):dU P need rd call (.seq a b) st e st1:=by
 intro r aj
 obtain⟨bt,aG,cR⟩:=J r aj
 exact⟨bt,by simp only[eR,aG];exact Ab he,cR⟩
theorem dU.block{need:Nat}{st st1:bD}(J:dU P need rd call b st (.exit id) st1):dU P need rd call (.block id b) st .nrm st1:=by
 intro r aj
 obtain⟨bt,aG,cR⟩:=J r aj
 exact⟨bt,by simp only[eR,aG,if_true],cR⟩
theorem dU.qc{need:Nat}{st st1:bD}(J:dU P need rd call b st e st1)(he:e≠ .exit id):dU P need rd call (.block id b) st e st1:=by
 intro r aj
 obtain⟨bt,aG,cR⟩:=J r aj
 refine⟨bt,?_,cR⟩
 simp only[eR,aG]
 cases e<;>first|rfl|(rename_i i;exact if_neg λh=>he (by rw[h]))
theorem a0.seq{p:List Nat}{st st1 fC:bD}(ah:wG (sub (hc fn) p)=true)(J:a0 P fn rd call (p++[0]) st .nrm st1)(ae:a0 P fn rd call (p++[1]) st1 e fC):a0 P fn rd call p st e fC:=by
 unfold a0 at*
 rw[Qs ah]
 rw[pn] at J ae
 exact J.seq ae
theorem a0.yr{p:List Nat}{st st1:bD}(ah:wG (sub (hc fn) p)=true)(J:a0 P fn rd call (p++[0]) st e st1)(he:e≠ .nrm):a0 P fn rd call p st e st1:=by
 unfold a0 at*
 rw[Qs ah]
 rw[pn] at J
 exact J.yr he
theorem a0.block{p:List Nat}{st st1:bD}(ah:CZ id (sub (hc fn) p)=true)(J:a0 P fn rd call (p++[0]) st (.exit id) st1):a0 P fn rd call p st .nrm st1:=by
 unfold a0 at*
 rw[Qt ah]
 rw[pn] at J
 exact J.block
theorem a0.qc{p:List Nat}{st st1:bD}(ah:CZ id (sub (hc fn) p)=true)(J:a0 P fn rd call (p++[0]) st e st1)(he:e≠ .exit id):a0 P fn rd call p st e st1:=by
 unfold a0 at*
 rw[Qt ah]
 rw[pn] at J
 exact J.qc he
def eP(P:Program)(fn:Func)(rd:Option Nat)(call:e0)(p:List Nat)(n:Nat)(st:bD)(e:cl)(cv:bD):Prop:=sm P (e1 fn) rd call (sub (hc fn) (p++[0])) n st e cv
theorem eP.step{p:List Nat}{st st1 cv:bD}(h:a0 P fn rd call (p++[0]) st .nrm st1)(ae:eP P fn rd call p n st1 e cv):eP P fn rd call p (n+1) st e cv:=sm.step h ae
theorem eP.exit{p:List Nat}{st cv:bD}(h:a0 P fn rd call (p++[0]) st e cv)(he:e≠ .nrm):eP P fn rd call p (n+1) st e cv:=sm.exit h he
theorem eP.run{p:List Nat}{st cv:bD}(ah:C0 (sub (hc fn) p)=true)(h:eP P fn rd call p n st e cv)(aT:n<=100000):a0 P fn rd call p st e cv:=by
 unfold a0
 rw[ZT ah]
 unfold eP at h
 rw[pn] at h
 exact sm.run h aT
theorem Kb{intr:Nat->List aa->I->Option (aa×I)}(aM:P.funcs[f]? =some fn)(ag:fn.body.isSome=true)(hi:intr f args h=none)(hle:Nat.ble args.length fn.ntmps=true)
  {av:Env}{q:cm}(dD:a0 P fn none (eA P intr n) [] ⟨lN 0 args,[],.none,h⟩ e ⟨av,[],q,ay⟩)(he:e=.ret\/e=.nrm)(iG:iw P (e1 fn) fn av ay=some v):
  eA P intr (n+1) (.fn f) args h=.ret v ay:=by
 obtain⟨c,ak⟩:=Option.isSome_iff_exists.1 ag
 have sn:hc fn=c:=by simp[hc,ak]
 unfold a0 at dD
 rw[sn] at dD
 simp only[sub] at dD
 exact ZQ aM ak rfl hi hle dD he iG
theorem ow{intr:Nat->List aa->I->Option (aa×I)}(aM:P.funcs[f]? =some fn)(ag:fn.body.isSome=true)(hi:intr f args h=none)(hle:Nat.ble args.length fn.ntmps=true)
  {av:Env}{q:cm}(dD:a0 P fn none (eA P intr n) [] ⟨lN 0 args,[],.none,h⟩ (.aK v) ⟨av,[],q,ay⟩):eA P intr (n+1) (.fn f) args h=.aK v ay:=by
 obtain⟨c,ak⟩:=Option.isSome_iff_exists.1 ag
 have sn:hc fn=c:=by simp[hc,ak]
 unfold a0 at dD
 rw[sn] at dD
 simp only[sub] at dD
 exact ZR aM ak rfl hi hle dD
theorem uF{i:Nat}(hi:i<m)(hm:m<=1000000000000):arith BinOp.add IntKind.i64 (Int.ofNat i) (Int.ofNat 1)=some (aa.int IntKind.i64 (Int.ofNat (i+1))):=by
 have h:=r6 (i+1) (by omega)
 have e:Int.ofNat i+Int.ofNat 1=((i+1:Nat):Int):=rfl
 simp only[arith,e,h];rfl
theorem ib{a b:Nat}(h:a<b):jZ (Int.ofNat a) (Int.ofNat b)=true:=by simp[jZ];omega
theorem iR{a b:Nat}(h:¬a<b):jZ (Int.ofNat a) (Int.ofNat b)=false:=by simp[jZ];omega
theorem AB{s:List UInt8}{i:Nat}(h:i<s.length):eJ i s=some (.int .u8 (Int.ofNat (s[i]).toNat)):=by
 unfold eJ
 rw[j0,List.getElem?_eq_getElem h]
end
structure Ext(B:Nat)(h ay:I):Prop where
 n:h.n<=ay.n
 get:∀b,b<B->ay.get b=h.get b
theorem Ext.refl(B:Nat)(h:I):Ext B h h:=⟨Nat.le_refl _,λ_ _=>rfl⟩
theorem Ext.trans{kO:Nat}{J ae:I}(eU:B<=kO)(e:Ext B h J)(b0:Ext kO J ae):Ext B h ae:=⟨Nat.le_trans e.n b0.n,λb ag=>(b0.get b (Nat.lt_of_lt_of_le ag eU)).trans (e.get b ag)⟩
theorem Ext.push(eU:B<=h.n)(o:b5):Ext B h (h.push o):=⟨by simp,λb ag=>by rw[I.mZ,if_neg (by omega)]⟩
theorem Ext.set{b:Nat}(ag:B<=b)(o:Option b5):Ext B h (h.set b o):=⟨by simp,λc ak=>by rw[I.fk,if_neg (by omega)]⟩
theorem Ext.room(B:Nat)(h:I)(k:Nat):Ext B h (h.room k):=⟨by simp,λ_ _=>rfl⟩
theorem Gj:∀(l m:List aa),takeN l.length (l++m)=some l
 |[],m=>rfl
 |a::l,m=>by simp[takeN,Gj l m]
theorem C1{b e:Nat}{k:ff}{xs rest:List aa}(aB:h.get b=some (.cells (xs++rest) e k lo hi)):loadCells h b 0 xs.length=some xs:=by
 simp[loadCells,aB,lC,Gj]
section
variable {P:Program}
theorem ys{e bytes size need:Nat}{z:aa}{cs:List aa}{fz:Nat}(J:mX need bytes=true)(ae:Nat.beq z.cells.length size=true)(aq:cs.all aa.dJ=true):r1 h e bytes size need z cs fz=some (.slice h.n 0 need (.aX size),h.push (.cells cs e .aX 0 fz)):=by
 unfold r1
 rw[J,ae,aq];rfl
theorem Qu{s:List UInt8}{k k':IntKind}(hu:P.underlying t=some .string)(J:lo<=hi)(ae:hi<=s.length):
  kC P h t (.str s) (some (.int k (Int.ofNat lo))) (some (.int k' (Int.ofNat hi))) none=some (.str ((s.drop lo).take (hi-lo))):=by
 have bd:Nat.ble s.length s.length=true:=by simp
 have b2:Nat.ble hi s.length=true:=by simpa using ae
 have dd:Nat.ble lo hi=true:=by simpa using J
 simp only[kC,hu,bounds,mW,hS,bd,b2,dd,om]
theorem ZU{s:List UInt8}{k':IntKind}(hu:P.underlying t=some .string)(ae:hi<=s.length):
  kC P h t (.str s) none (some (.int k' (Int.ofNat hi))) none=some (.str (s.take hi)):=by
 have bd:Nat.ble s.length s.length=true:=by simp
 have b2:Nat.ble hi s.length=true:=by simpa using ae
 have dd:Nat.ble 0 hi=true:=by simp
 simp only[kC,hu,bounds,mW,hS,bd,b2,dd,om,List.drop_zero,Nat.sub_zero]
theorem ZV{s:List UInt8}{k:IntKind}(hu:P.underlying t=some .string)(ae:lo<=s.length):
  kC P h t (.str s) (some (.int k (Int.ofNat lo))) none none=some (.str (s.drop lo)):=by
 have bd:Nat.ble s.length s.length=true:=by simp
 have b2:Nat.ble lo s.length=true:=by simpa using ae
 simp only[kC,hu,bounds,mW,hS,bd,b2,om]
 rw[List.take_of_length_le (by simp)]
theorem ZW{x y:List UInt8}(h:x.length+y.length<=1000000000000):zR .add x y=some (.str (x++y)):=by
 have:¬(((x.length+y.length:Nat):Int)>IntKind.i64.max):=by
  have e:IntKind.i64.max=9223372036854775807:=rfl
  rw[e];omega
 simp only[zR,if_neg this]
end
variable {P:Program} {call:e0}
end aJ
namespace aJ
open Go
variable {B a b c e i j kO lo off up:Nat}{ay g h:I}{cs:List aa}{k:ff}{o:b5}{v:aa}{x:Option b5}
def W(P:Program)(need:Nat)(rd:Option Nat)(call:e0)(c:Code)(Q:cl->bf->List cc->cm->I->Prop)(r:bf)(d:List cc)(q:cm)(h:I):Prop:=
 ∃e r' bT bZ ay,eR P need rd call c r d q h=.ok e r' bT bZ ay/\Q e r' bT bZ ay
section
variable {P:Program} {need:Nat} {rd:Option Nat} {call:e0} {fn:Func}
end
theorem ox:∀l:List UInt8,(cC l).length=l.length
 |[]=>rfl
 |a::l=>by simp[cC,ox l]
theorem yu:∀l m:List UInt8,cC (l++m)=cC l++cC m
 |[],m=>rfl
 |a::l,m=>by simp[cC,yu l m]
theorem yv:∀l:List UInt8,(cC l).all aa.dJ=true
 |[]=>rfl
 |a::l=>by rw[cC,List.all_cons,yv l];rfl
theorem Kc:∀l:List UInt8,pU (cC l)=some l
 |[]=>rfl
 |a::l=>by
  have J:Nat.blt a.toNat 256=true:=by have:=UInt8.toNat_lt a;simp[Nat.blt];omega
  simp only[cC,pU,Kc l,J,UInt8.ofNat_toNat]
theorem Qv:∀(xs fQ:List aa),xs.all aa.dJ=true->xs.length<=fQ.length->gK 0 xs fQ=some (xs++fQ.drop xs.length)
 |[],fQ,_,_=>by cases fQ<;>simp[gK]
 |x::xs,[],_,h=>by simp at h
 |x::xs,y::fQ,ab,h=>by
  simp only[List.all_cons,Bool.and_eq_true] at ab
  have bM:=Qv xs fQ ab.2 (by simpa using h)
  simp[gK,ab.1,bM]
theorem Gk:∀(l xs fQ:List aa),xs.all aa.dJ=true->xs.length<=fQ.length->gK l.length xs (l++fQ)=some (l++(xs++fQ.drop xs.length))
 |[],xs,fQ,ab,h=>by simpa using Qv xs fQ ab h
 |a::l,[],fQ,ab,h=>by simp[gK]
 |a::l,x::xs,fQ,ab,h=>by
  have bM:=Gk l (x::xs) fQ ab h
  simp only[List.length_cons,List.cons_append,gK] at bM⊢
  rw[bM]
theorem nL(h:i+j<9223372036854775808):arith BinOp.add IntKind.i64 (Int.ofNat i) (Int.ofNat j)=some (aa.int IntKind.i64 (Int.ofNat (i+j))):=by
 have h:=r6 (i+j) h
 have e:Int.ofNat i+Int.ofNat j=((i+j:Nat):Int):=rfl
 simp only[arith,e,h];rfl
theorem AD(aL:j<=i)(h:i<9223372036854775808):arith BinOp.sub IntKind.i64 (Int.ofNat i) (Int.ofNat j)=some (aa.int IntKind.i64 (Int.ofNat (i-j))):=by
 have h:=r6 (i-j) (by omega)
 have e:Int.ofNat i-Int.ofNat j=((i-j:Nat):Int):=by
  have aG:Int.ofNat i=(i:Int):=rfl
  have aE:Int.ofNat j=(j:Int):=rfl
  rw[aG,aE];omega
 simp only[arith,e,h];rfl
theorem Qw(h:i*j<9223372036854775808):arith BinOp.mul IntKind.i64 (Int.ofNat i) (Int.ofNat j)=some (aa.int IntKind.i64 (Int.ofNat (i*j))):=by
 have h:=r6 (i*j) h
 have e:Int.ofNat i*Int.ofNat j=((i*j:Nat):Int):=rfl
 simp only[arith,e,h];rfl
theorem ZX(aL:0<j)(h:i<9223372036854775808):arith BinOp.quo IntKind.i64 (Int.ofNat i) (Int.ofNat j)=some (aa.int IntKind.i64 (Int.ofNat (i/j))):=by
 have h:=r6 (i/j) (by have:=Nat.div_le_self i j;omega)
 have e:(Int.ofNat i).tdiv (Int.ofNat j)=((i/j:Nat):Int):=rfl
 have dk:¬(Int.ofNat j=0):=by
  have aG:Int.ofNat j=(j:Int):=rfl
  rw[aG];omega
 simp only[arith,if_neg dk,e,h];rfl
theorem mD(h:a<=b):mo (Int.ofNat a) (Int.ofNat b)=true:=by simp[mo];omega
theorem l6(h:¬a<=b):mo (Int.ofNat a) (Int.ofNat b)=false:=by simp[mo];omega
def m7(B e:Nat)(h:I)(v:aa)(w:List UInt8):Prop:=
 (v=.ao/\w=[])\/∃c rest,v=.slice c 0 w.length (.aX 1)/\h.get c=some (.cells (cC w++rest) e .aX 0 0)/\B<=c/\c<h.n
theorem m7.ext{w:List UInt8}(ag:m7 B e h v w)(aT:h.n<=ay.n)(aB:∀c,B<=c->c<h.n->ay.get c=h.get c):m7 B e ay v w:=by
 rcases ag with J|⟨c,rest,J,ae,aq,aQ⟩
 · exact .inl J
 · exact .inr ⟨c,rest,J,(aB c aq aQ).trans ae,aq,by omega⟩
section
variable {P:Program}
theorem ZY{w s:List UInt8}{sT e:TypeId}{xT:Option TypeId}{i:TypeInfo}{z:aa}(eU:B<=h.n)(hu:P.underlying sT=some (.slice e))(hF:uk P xT=true)(hi:P.info? e=some i)(bQ:i.size=1)(bm:gu P e=some z)(pc:z.cells.length=1)
  (tc:mX (w.length+s.length) i.bytes=true)(aj:m7 B e h v w):
  ∃v' ay,fi P h sT xT v (.str s)=some (v',ay)/\m7 B e ay v' (w++s)/\Ext B h ay:=by
 have m8:jr h 1 (.str s)=some (s.length,cC s):=rfl
 have C2:Nat.beq z.cells.length 1=true:=by rw[pc];rfl
 rcases aj with⟨rfl,rfl⟩|⟨c,rest,rfl,aB,po,mC⟩
 · cases s with
   |nil=>exact⟨.ao,h,by simp only[fi,hu,hF,hi,bm,bQ];rfl,.inl ⟨rfl,rfl⟩,Ext.refl _ _⟩
   |cons a s=>
    have Kd:mX (a::s).length i.bytes=true:=by simpa using tc
    have mB:=ys (h:=h) (e:=e) (fz:=0) Kd C2 (yv (a::s))
    refine⟨.slice h.n 0 (a::s).length (.aX 1),h.push (.cells (cC (a::s)) e .aX 0 0),?_,.inr ⟨h.n,[],by simp,by rw[I.mZ,if_pos rfl];simp,eU,by simp⟩,Ext.push eU _⟩
    rw[<-mB]
    simp only[fi,hu,hF,hi,bm,bQ,m8]
    rfl
 · cases s with
   |nil=>exact⟨.slice c 0 w.length (.aX 1),h,by simp only[fi,hu,hF,hi,bm,bQ];rfl,.inr ⟨c,rest,by simp,by simpa using aB,po,mC⟩,Ext.refl _ _⟩
   |cons a s=>
    have C3:(Nat.beq 1 1&&Nat.blt 0 1)=true:=rfl
    by_cases tf:(a::s).length<=rest.length
    · have qd:Nat.ble (0+(w.length+(a::s).length)*1) (cC w++rest).length=true:=by
        simp only[Nat.ble_eq,List.length_append,ox];omega
      have a3:=Gk (cC w) (cC (a::s)) rest (yv _) (by rw[ox];exact tf)
      have hw:og .aX 0 0 (0+w.length*1) (cC (a::s)).length=true:=by unfold og;simp
      have wm:gK (0+w.length*1) (cC (a::s)) (cC w++rest)=some (cC w++(cC (a::s)++rest.drop (cC (a::s)).length)):=by
       rw[<-a3,ox];simp
      refine⟨.slice c 0 (w.length+(a::s).length) (.aX 1),h.set c (some (.cells (cC w++(cC (a::s)++rest.drop (cC (a::s)).length)) e .aX 0 0)),?_,.inr ⟨c,rest.drop (cC (a::s)).length,by simp,by rw[I.fk,if_pos rfl,yu];simp,po,by simpa using mC⟩,Ext.set po _⟩
      simp only[fi,hu,hF,hi,bm,bQ,m8]
      simp only[C3,List.length_cons,aB]
      simp only[List.length_cons] at qd wm hw
      simp only[qd,aJ.storeCells,aB,hw,wm]
    · have qd:Nat.ble (0+(w.length+(a::s).length)*1) (cC w++rest).length=false:=by
        cases ag:Nat.ble (0+(w.length+(a::s).length)*1) (cC w++rest).length with
        |false=>rfl
        |true=>simp only[Nat.ble_eq,List.length_append,ox] at ag;omega
      have aA:loadCells h c 0 (w.length*1)=some (cC w):=by
       have:=C1 (xs:=cC w) aB
       rw[ox] at this;simpa using this
      have gZ:(cC w++cC (a::s)).all aa.dJ=true:=by rw[<-yu];exact yv _
      have Ke:(Nat.ble 0 (0+w.length*1)&&Nat.beq e e)=true:=by simp
      have mB:=ys (h:=h.set c none) (e:=e) (fz:=0-0) tc C2 gZ
      refine⟨.slice (h.set c none).n 0 (w.length+(a::s).length) (.aX 1),(h.set c none).push (.cells (cC w++cC (a::s)) e .aX 0 0),?_,.inr ⟨(h.set c none).n,[],by simp,by rw[I.mZ,if_pos rfl,yu];simp,by simp;omega,by simp⟩,
       (Ext.set po none).trans (Nat.le_refl _) (Ext.push (by simp;omega) _)⟩
      simp only[List.length_cons] at qd mB
      simp only[fi,hu,hF,hi,bm,bQ,m8]
      simp only[C3,List.length_cons,aB]
      simp only[qd,aA,Ke,mB]
theorem ZZ{pT u:TypeId}{w:List UInt8}{rest:List aa}(hw:w≠[])(aA:w.length<=100000000000)(hu:P.underlying pT=some (.pointer u))(he:P.underlyingId e=P.underlyingId u)(ah:eg P e=some 1)(aB:h.get c=some (.cells (cC w++rest) e .aX 0 0)):
  um P h pT (.ptr c 0) (.int .i64 (Int.ofNat w.length))=some (.str w,h.set c (some (.cells (cC w++rest) e .fz 0 0))):=by
 have aT:w.length≠0:=by cases w<;>simp at hw⊢
 have aI:takeN w.length (lC 0 (cC w++rest))=some (cC w):=by
  have:=Gj (cC w) rest
  rw[ox] at this;exact this
 have hle:Nat.ble w.length 281474976710656=true:=by simp;omega
 simp only[um,hS,if_neg aT,hu,aB,he,ah,hle,aI,Kc]
 simp
end
section
variable {D:Type}
variable {enc:D->List aa} {w:Nat}
theorem Z0:∀(l m:List aa) (n:Nat),l.length=n->takeN n (l++m)=some l
 |l,m,n,h=>by subst h;exact Gj l m
end
theorem wrap_u64(n:Nat)(h:n<18446744073709551616):IntKind.wrap .u64 (n:Int)=(n:Int):=by
 have e:((n:Int) %18446744073709551616)=n:=by omega
 have aE:(2:Int)^64=18446744073709551616:=by rfl
 simp only[IntKind.wrap,IntKind.bits,IntKind.signed,aE,e,Bool.false_and,if_neg Bool.false_ne_true]
theorem wrap_u8(n:Nat):IntKind.wrap .u8 (n:Int)=((n %256:Nat):Int):=by
 have aE:(2:Int)^8=256:=by rfl
 simp only[IntKind.wrap,IntKind.bits,IntKind.signed,aE,Bool.false_and,if_neg Bool.false_ne_true]
 omega
theorem Z1(h:i+j<18446744073709551616):arith BinOp.add IntKind.u64 (Int.ofNat i) (Int.ofNat j)=some (aa.int IntKind.u64 (Int.ofNat (i+j))):=by
 have h:=wrap_u64 (i+j) h
 have e:Int.ofNat i+Int.ofNat j=((i+j:Nat):Int):=rfl
 simp only[arith,e,h];rfl
theorem Z2(aL:j<=i)(h:i<18446744073709551616):arith BinOp.sub IntKind.u64 (Int.ofNat i) (Int.ofNat j)=some (aa.int IntKind.u64 (Int.ofNat (i-j))):=by
 have h:=wrap_u64 (i-j) (by omega)
 have e:Int.ofNat i-Int.ofNat j=((i-j:Nat):Int):=by
  have aG:Int.ofNat i=(i:Int):=rfl
  have aE:Int.ofNat j=(j:Int):=rfl
  rw[aG,aE];omega
 simp only[arith,e,h];rfl
theorem Gl(k:IntKind)(aL:0<j):arith BinOp.rem k (Int.ofNat i) (Int.ofNat j)=some (aa.int k (Int.ofNat (i %j))):=by
 have e:(Int.ofNat i).tmod (Int.ofNat j)=((i %j:Nat):Int):=rfl
 have dk:¬(Int.ofNat j=0):=by
  have aG:Int.ofNat j=(j:Int):=rfl
  rw[aG];omega
 simp only[arith,if_neg dk,e];rfl
theorem Qx(k:IntKind)(aL:j<=k.bits):gv BinOp.shr k (Int.ofNat i) (Int.ofNat j)=some (aa.int k (Int.ofNat (i/2^j))):=by
 have aT:¬(Int.ofNat j<0):=by
  have aG:Int.ofNat j=(j:Int):=rfl
  rw[aG];omega
 have aG:(Int.ofNat j).toNat=j:=rfl
 have aE:min j k.bits=j:=by omega
 have br:(Int.ofNat i).fdiv (2^j)=((i/2^j:Nat):Int):=by
  have:(2:Int)^j=((2^j:Nat):Int):=by norm_cast
  rw[this]
  show((i:Int)).fdiv ((2^j:Nat):Int)=_
  rw[Int.fdiv_eq_ediv_of_nonneg _ (Int.natCast_nonneg _)]
  rfl
 simp only[gv,if_neg aT,aG,aE,br];rfl
section
variable {P:Program}
theorem AE{a b:TypeId}{ka k k':IntKind}{n:Int}(a_:P.underlying a=some (.int ka))(ag:P.underlying b=some (.int k')){m:Int}(hm:k'.wrap n=m):df P a b (.int k n) h=.val (.int k' m) h:=by
 simp only[df,a_,ag,hm]
theorem Z3{a b e:TypeId}{cap:dn}{w:List UInt8}{rest:List aa}{el:Nat}(a_:P.underlying a=some (.slice e))(he:P.underlying e=some (.int .u8))(ag:P.underlying b=some .string)(q7:cap=.exact w.length\/cap=.aX 1)
  (aB:h.get c=some (.cells (cC w++rest) el k lo up)):df P a b (.slice c 0 w.length cap) h=.val (.str w) h:=by
 have aA:loadCells h c 0 w.length=some (cC w):=by
  have:=C1 (xs:=cC w) aB
  rwa [ox] at this
 rcases q7 with rfl|rfl<;>simp only[df,a_,he,ag,aA,Kc]
end
theorem lO(h:a=b):jM (Int.ofNat a) (Int.ofNat b)=true:=by subst h;simp[jM]
theorem fU(h:¬a=b):jM (Int.ofNat a) (Int.ofNat b)=false:=by
 cases ab:jM (Int.ofNat a) (Int.ofNat b) with
 |false=>rfl
 |true=>simp[jM] at ab;omega
structure bU(p B:Nat)(h ay:I):Prop where
 n:h.n<=ay.n
 get:∀b,b<B->b≠p->ay.get b=h.get b
theorem Ext.eb(e:Ext B h ay)(p:Nat):bU p B h ay:=⟨e.n,λb ag _=>e.get b ag⟩
theorem bU.refl(p B:Nat)(h:I):bU p B h h:=⟨Nat.le_refl _,λ_ _ _=>rfl⟩
theorem bU.trans{p:Nat}{J ae:I}(eU:B<=kO)(e:bU p B h J)(b0:bU p kO J ae):bU p B h ae:=⟨Nat.le_trans e.n b0.n,λb ag a3=>(b0.get b (Nat.lt_of_lt_of_le ag eU) a3).trans (e.get b ag a3)⟩
theorem bU.set{p:Nat}(o:Option b5):bU p B h (h.set p o):=⟨by simp,λc _ a3=>by rw[I.fk,if_neg a3]⟩
theorem bU.push{p:Nat}(eU:B<=h.n)(o:b5):bU p B h (h.push o):=(Ext.push eU o).eb p
theorem bU.Z4{p:Nat}(e:bU p B h ay)(a3:B<=p):Ext B h ay:=⟨e.n,λb ag=>e.get b ag (by omega)⟩
theorem bU.le{p:Nat}(e:bU p kO h ay)(eU:B<=kO):bU p B h ay:=⟨e.n,λb ag=>e.get b (by omega)⟩
theorem Ext.le(e:Ext kO h ay)(eU:B<=kO):Ext B h ay:=⟨e.n,λb ag=>e.get b (by omega)⟩
theorem dx(ag:b=h.n):(h.push o).get b=some o:=by subst ag;rw[I.mZ,if_pos rfl]
theorem gN(ag:b<h.n)(ab:h.get b=x):(h.push o).get b=x:=by rw[I.mZ,if_neg (by omega)];exact ab
theorem dz(ag:b=c):(h.set c (some o)).get b=some o:=by subst ag;rw[I.fk,if_pos rfl]
theorem cr{o:Option b5}(ag:¬b=c)(ab:h.get b=x):(h.set c o).get b=x:=by rw[I.fk,if_neg ag];exact ab
theorem AF{k:Nat}(ab:h.get b=x):(h.room k).get b=x:=ab
theorem aN(aB:h.get b=some (.cells cs e k lo up))(aT:nth off cs=some v):aC h b off=some v:=by simp only[aC,aB,aT]
theorem rk{m:Nat}{vs:List aa}(aB:h.get b=some (.cells cs e k lo up))(aT:takeN m (lC off cs)=some vs):aJ.loadCells h b off m=some vs:=by simp only[aJ.loadCells,aB,aT]
theorem cy{xs cq:List aa}(aB:h.get b=some (.cells cs e k lo up))(hw:og k lo up off xs.length=true)(a3:gK off xs cs=some cq):aJ.storeCells h b off xs=some (h.set b (some (.cells cq e k lo up))):=by simp only[aJ.storeCells,aB,hw,a3]
theorem Ext.ix{o:Option b5}(ag:B<=b)(e:Ext B h g):Ext B h (g.set b o):=e.trans (Nat.le_refl _) (Ext.set ag _)
theorem Ext.k4(eU:B<=g.n)(e:Ext B h g):Ext B h (g.push o):=e.trans (Nat.le_refl _) (Ext.push eU _)
theorem Ext.Kf{k:Nat}(e:Ext B h g):Ext B h (g.room k):=⟨Nat.le_trans e.n (Nat.le_add_right _ _),e.get⟩
theorem Ext.Z5{fT:I}(x:Ext kO g fT)(eU:B<=kO)(e:Ext B h g):Ext B h fT:=e.trans eU x
theorem Ext.Z6{p:Nat}{fT:I}(x:bU p kO g fT)(eU:B<=kO)(a3:B<=p)(e:Ext B h g):Ext B h fT:=e.trans (Nat.le_refl _) ((x.le eU).Z4 a3)
theorem bU.qe{p:Nat}{o:Option b5}(e:bU p B h g):bU p B h (g.set p o):=e.trans (Nat.le_refl _) (bU.set _)
theorem bU.ix{p:Nat}{o:Option b5}(ag:B<=b)(e:bU p B h g):bU p B h (g.set b o):=e.trans (Nat.le_refl _) ((Ext.set ag _).eb p)
theorem Qy(a:List UInt8):gb a a=true:=by
 induction a with
 |nil=>rfl
 |cons x l bM=>simp[gb,bM]
theorem Qz{P:Program}{need:Nat}{fn:Func}{av:Env}{t ty p n:Nat}{vs:List aa}(aG:fn.results.toList=[.cell t ty])(aE:Nat.testBit need t=true)(br:oh P ty=some true)(dw:eg P ty=some n)
  (hh:gk t av=some (.ptr p 0))(aA:aJ.loadCells h p 0 n=some vs):iw P need fn av h=some (.agg vs):=by
 simp only[iw,aG,o6,rj,aE,br,dw,hh,aA]
theorem Gm(e:Ext B h g:=by repeat (first|with_reducible exact Ext.refl _ _|with_reducible assumption|with_reducible refine Ext.Kf ?_|with_reducible refine Ext.ix (by first|omega|(simp only[I.vR,I.zW,I.Av];omega)) ?_|with_reducible refine Ext.k4 (by first|omega|(simp only[I.vR,I.zW,I.Av];omega)) ?_|with_reducible refine Ext.Z5 (by with_reducible assumption) (by first|omega|(simp only[I.vR,I.zW,I.Av];omega)) ?_|with_reducible refine Ext.Z6 (by with_reducible assumption) (by first|omega|(simp only[I.vR,I.zW,I.Av];omega)) (by first|omega|(simp only[I.vR,I.zW,I.Av];omega)) ?_|refine Ext.ix (by first|omega|(simp only[I.vR,I.zW,I.Av];omega)) ?_)):Ext B h g:=e
end aJ
