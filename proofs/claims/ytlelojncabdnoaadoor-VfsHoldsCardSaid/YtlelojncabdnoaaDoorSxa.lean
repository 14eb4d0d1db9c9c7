/-
  PROVED HERE: symbolic runs of the evaluator, and that they are sound (Sxa). No condition beside each statement's own.
-/
import Derived.Test.YtlelojncabdnoaaDoorAed
set_option linter.unusedVariables false
set_option linter.unusedSimpArgs false
namespace aU
open Go
abbrev Env:=List (Nat×I)
def cU(t:Nat):Env->Option I
 |[]=>none
 |(u,v)::l=>match Nat.beq t u with
  |true=>some v
  |false=>cU t l
def del(t:Nat):Env->Env
 |[]=>[]
 |(u,v)::l=>match Nat.beq t u with
  |true=>del t l
  |false=>(u,v)::del t l
def put(t:Nat)(v:I)(Γ:Env):Env:=(t,v)::del t Γ
def k2(Γ:Env):List Nat->Env
 |[]=>[]
 |t::l=>match cU t Γ with
  |some v=>(t,v)::k2 Γ l
  |none=>k2 Γ l
def Mod(r:aC)(Γ:Env):Prop:=∀t v,cU t Γ=some v->r.get (e2 t)=v
structure aQ where
 Γ:Env
 d:List bo
 q:aJ
 h:J
inductive Hint where
 |v (v:I)
 |hE (v:I) (h:J)
 |c (v:I) (h:J)
 |p (v:I) (h:J)
 |b (b:Bool)
 |loop (e:bh) (st:aQ)
 |Mz (v:I) (o:b2)
 |o (v:I)
 |AQ
def cH:List Prop->Prop
 |[]=>True
 |p::l=>p/\cH l
theorem cH.cons{p:Prop}{l:List Prop}(h:p)(t:cH l):cH (p::l):=⟨h,t⟩
theorem cH.nil:cH []:=trivial
theorem cH.append:∀{l m:List Prop},cH (l++m)->cH l/\cH m
 |[],m,h=>⟨trivial,h⟩
 |p::l,m,h=>⟨⟨h.1,(cH.append h.2).1⟩,(cH.append h.2).2⟩
def jV(m:Nat)(env:List I)(Γ:Env):Acc->Option I
 |.env j=>nth (m-1-j) env
 |.iF p=>cU p.num Γ
 |.val v=>some v
def AR(o:Oper)(g:Operand->I):Nat:=match o.op with
 |.load .. |.slice .. |.index .. |.indexAddr .. |.lookup .. |.entry .. =>1
 |.binOp op _ x y _=>match op,g x,g y with
  |.eql,.int _ _,.int _ _|.neq,.int _ _,.int _ _|.lss,.int _ _,.int _ _|.leq,.int _ _,.int _ _|.gtr,.int _ _,.int _ _|.geq,.int _ _,.int _ _=>0
  |.eql,.str _,.str _|.neq,.str _,.str _|.lss,.str _,.str _|.leq,.str _,.str _|.gtr,.str _,.str _|.geq,.str _,.str _=>0
  |_,_,_=>1
 |.unOp op _ _=>match op with
  |.not=>0
  |_=>1
 |.convert _ _ x=>match g x with
  |.str _=>2
  |_=>1
 |.range _ x=>match g x with
  |.map _=>2
  |_=>0
 |.store .. |.mapUpdate .. |.mapEntry .. |.entryStore .. |.insert .. |.next .. |.makeSlice .. =>2
 |.call c=>match c.callee with
  |.builtin b=>match b with
   |.len=>match c.args.toList.map g with
    |[.map _]=>1
    |_=>0
   |.cap|.min|.max|.unsafeSliceData=>1
   |.append|.copy|.clear|.delete|.unsafeString=>2
   |_=>0
  |_=>0
 |_=>0
def qS(n:Nat)(s:List UInt8):Option I:=match nth n s with
 |some b=>some (.int .u8 (Int.ofNat b.toNat))
 |none=>none
def jv(P:Program)(o:Oper)(g:Operand->I)(h:J)(v:I):Prop:=match o.op with
 |.load t a=>match g a,jJ P t,cG P t with
  |.ptr b off,some false,some _=>aO h b off=some v
  |.ptr b off,some true,some n=>match v with
   |.agg cs=>loadCells h b off n=some cs
   |_=>False
  |_,_,_=>False
 |.binOp op t x y _=>match g x,g y with
  |.int k a,.int gn b=>match op with
   |.shl=>tF .shl k a b=some v
   |.shr=>tF .shr k a b=some v
   |op=>match decide (k=gn) with
    |true=>arith op k a b=some v
    |false=>False
  |.str a,.str b=>r0 op a b=some v
  |a,b=>eo P h op t x y a b=some v
 |.slice t x bF ag mx=>gp P h t (g x) (bF.map g) (ag.map g) (mx.map g)=some v
 |.index t x i=>match P.underlying t,g x,ez (g i) with
  |some .string,.str s,some n=>qS n s=some v
  |some (.array m e),.agg cs,some n=>match cG P e with
   |some sz=>n<m/\kJ P e cs (n*sz)=some v
   |none=>False
  |_,_,_=>False
 |.indexAddr t x i=>match P.underlying t,g x,ez (g i) with
  |some (.array m e),.ptr b off,some n=>match cG P e with
   |some sz=>n<m/\v=.ptr b (off+n*sz)
   |none=>False
  |some (.slice e),.slice b off m c,some n=>match cG P e with
   |some sz=>n<m/\v=.ptr b (off+n*sz)
   |none=>False
  |_,_,_=>False
 |.lookup t x i ok=>gq P h t (g x) (g i) ok=some v
 |.entry it=>p7 h (g it)=some v
 |.unOp op _ x=>match op,g x with
  |.neg,.int k n=>v=.int k (k.wrap (0-n))
  |.xor,.int k n=>arith .xor k (if k.signed then-1 else k.max) n=some v
  |_,_=>False
 |.convert src dst x=>hQ P src dst (g x) h=.val v h
 |.call c=>match c.callee,c.args.toList.map g,c.argTypes[0]? with
  |.builtin .len,[x],some t=>gX P h t x=some v
  |.builtin .cap,[x],some t=>r1 P t x=some v
  |.builtin .min,x::l,_=>fA ji x l=some v
  |.builtin .max,x::l,_=>fA jK x l=some v
  |.builtin .unsafeSliceData,[x],some t=>hd P .unsafeSliceData #[t] [x] h=.val v h
  |_,_,_=>False
 |_=>False
def Fk(P:Program)(h:J)(t:TypeId)(l c:I):Option (I×J):=match P.underlying t,ez l,ez c with
 |some (.slice e),some l,some c=>match P.info? e,dV P e with
  |some i,some z=>if l<=c&&Nat.ble (c*(i.bytes+1)) 1099511627776&&Nat.beq z.cells.length i.size then(match newRow h e (if c*i.size=0 then[] else fc c z.cells) with
   |some (b,ai)=>some (.slice b 0 l (.exact c),ai)
   |none=>none) else none
  |_,_=>none
 |_,_,_=>none
def xS(h:J):I->Option (I×J)
 |.map m=>match h.get m with
  |some (.map _ c)=>some (.ptr h.n 0,h.push (.mapIter (some m) c [] c))
  |_=>none
 |_=>none
def sH(P:Program)(o:Oper)(g:Operand->I)(h:J)(v:I)(ai:J):Prop:=match o.op with
 |.store t a x=>match g a with
  |.ptr b off=>cG P t=some (g x).cells.length/\storeCells h b off (g x).cells=some ai/\v=.aF []
  |_=>False
 |.convert src dst x=>hQ P src dst (g x) h=.val v ai
 |.mapUpdate t m k x=>jj P h t (g m) (g k) (g x)=some ai/\v=.aF []
 |.insert t m k x=>jj P h t (g m) (g k) (g x)=some ai/\v=.aF []
 |.mapEntry t m k=>wH P h t (g m) (g k)=some (v,ai)
 |.entryStore t m s x=>wI h (g m) (g s) (g x)=some ai/\v=.aF []
 |.next it isStr=>wJ h (g it) isStr=some (v,ai)
 |.range t x=>match P.underlying t with
  |some (.map _ _)=>xS h (g x)=some (v,ai)
  |_=>False
 |.makeSlice t l c=>Fk P h t (g l) (g c)=some (v,ai)
 |.call c=>match c.callee,c.args.toList.map g,c.argTypes[0]? with
  |.builtin .append,[x,y],some t=>eA P h t c.argTypes[1]? x y=some (v,ai)
  |.builtin .copy,[x,y],some t=>r2 P h t x y=some (v,ai)
  |.builtin .clear,[x],some t=>wE P h t x=some (v,ai)
  |.builtin .delete,[x,y],some t=>p5 P h t x y=some (v,ai)
  |.builtin .unsafeString,[x,y],some t=>nJ P h t x y=some (v,ai)
  |_,_,_=>False
 |_=>False
inductive k3 where
 |ok (v:I) (d:List bo) (q:aJ) (h:J)
 |bm (v:I) (d:List bo) (q:aJ) (h:J)
def k3.res:k3->tK
 |.ok v d q h=>.ok v d q h
 |.bm v d q h=>.bm v d q h
inductive jw(α:Type 1) where
 |b4 (a:α)
 |stop (hy:String) (x:Option Bool)
structure fH(α:Type):Type 1 where
 res:α
 cs:List Prop
 ae:List Hint
structure MA(l:List I):Prop where
 h:l.all I.cL=true
def xU(call:cJ)(pos:String)(f:cM)(args:List I)(d:List bo)(q:aJ)(h:J):List Hint->jw (fH k3)
 |.c v ai::ae=>.b4 ⟨.ok v d q ai,[call f args h=.ret v ai],ae⟩
 |.p v ai::ae=>.b4 ⟨.bm v d q ai,[call f args h=.bm v ai],ae⟩
 |_=>.stop ("call " ++pos) none
def MB(P:Program)(o:Oper):Bool:=match o.op with
 |.call c=>match c.callee with
  |.builtin b=>match b with
   |.len=>true
   |_=>false
  |_=>false
 |.binOp op t _ _ _=>match op with
  |.eql|.neq=>match P.underlying t with
   |some (.int _)=>false
   |some .string=>false
   |some .bool=>false
   |some _=>true
   |none=>false
  |_=>false
 |_=>false
def MC(P:Program)(o:Oper):List Hint->Option (I×List Hint)
 |.o v::ae=>match MB P o with
  |true=>some (v,ae)
  |false=>none
 |_=>none
def Fl(o:Oper):List Hint->Option (TypeId×Operand×List Hint)
 |.AQ::ae=>match o.op with
  |.box e x=>some (e,x,ae)
  |_=>none
 |_=>none
def AS(P:Program)(inR:Bool)(call:cJ)(o:Oper)(g:Operand->I)(d:List bo)(q:aJ)(h:J)(ae:List Hint):jw (fH k3):=
 match MC P o ae with
 |some (v,ae)=>.b4 ⟨.ok v d q h,[jv P o g h v],ae⟩
 |none=>match Fl o ae with
  |some (e,x,ae)=>.b4 ⟨.ok (.ptr h.n 0) d q (h.push (.cells (g x).cells e .own 0 0)),[MA (g x).cells],ae⟩
  |none=>match AR o g with
   |0=>match bV P o g h with
    |.val v ai=>.b4 ⟨.ok v d q ai,[],ae⟩
    |.bm v ai=>.b4 ⟨.bm v d q ai,[],ae⟩
    |.call f args ai=>xU call o.pos (.fn f) args d q ai ae
    |.bY l args ai=>xU call o.pos (.bY l) args d q ai ae
    |.lu x=>match inR with
     |true=>.stop "defer" none
     |false=>.b4 ⟨.ok (.aF []) (x::d) q h,[],ae⟩
    |.p2=>match inR with
     |true=>.stop "recover" none
     |false=>match q with
      |.none=>.b4 ⟨.ok .dY d .none h,[],ae⟩
      |.done v=>.b4 ⟨.ok .dY d (.done v) h,[],ae⟩
      |.act v=>.b4 ⟨.ok v d (.done v) h,[],ae⟩
    |.fail w=>.stop (w++ " " ++o.pos) none
   |1=>match ae with
    |.v v::ae=>.b4 ⟨.ok v d q h,[jv P o g h v],ae⟩
    |_=>.stop ("value " ++o.pos) none
   |_=>match ae with
    |.hE v ai::ae=>.b4 ⟨.ok v d q ai,[sH P o g h v ai],ae⟩
    |_=>.stop ("value and memory " ++o.pos) none
def AT(o:Oper)(g:Operand->I)(d:List bo)(q:aJ)(h:J)(ae:List Hint):Option (jw (fH k3)):=match o.op with
 |.pick c a b=>match g c with
  |.bool x=>match ae with
   |.b true::ae=>some (.b4 ⟨.ok (g a) d q h,[x=true],ae⟩)
   |.b false::ae=>some (.b4 ⟨.ok (g b) d q h,[x=false],ae⟩)
   |_=>some (.stop ("pick " ++o.pos) (some x))
  |_=>some (.stop ("pick of what " ++o.pos) none)
 |_=>none
def xV(P:Program)(inR:Bool)(call:cJ)(o:Oper)(g:Operand->I)(d:List bo)(q:aJ)(h:J)(ae:List Hint):jw (fH k3):=match AT o g d q h ae with
 |some r=>r
 |none=>AS P inR call o g d q h ae
def sI(P:Program)(inR:Bool)(call:cJ)(gd:Option (I×Bool))(o:Oper)(g:Operand->I)(d:List bo)(q:aJ)(h:J)(ae:List Hint):jw (fH k3):=
 match gd with
 |none=>xV P inR call o g d q h ae
 |some (.bool x,b)=>match ae with
  |.b c::ae=>match c==b with
   |true=>match xV P inR call o g d q h ae with
    |.b4 ⟨s,cs,ae⟩=>.b4 ⟨s,(x=c)::cs,ae⟩
    |.stop w x=>.stop w x
   |false=>.b4 ⟨.ok (.aF []) d q h,[x=c],ae⟩
  |_=>.stop ("guard " ++o.pos) (some x)
 |some (.aF [],_)=>.b4 ⟨.ok (.aF []) d q h,[],ae⟩
 |_=>.stop ("guard of what " ++o.pos) none
def sJ(P:Program)(need m:Nat)(env:List I)(Γ:Env)(loc:List (Nat×Acc))(o:Oper):Bool:=o.op.operands.toList.all λx=>(jV m env Γ (bM P need loc x)).isSome
def jx(P:Program)(need m:Nat)(env:List I)(Γ:Env)(loc:List (Nat×Acc))(x:Operand):I:=(jV m env Γ (bM P need loc x)).getD .bad
def Fm(env:List I)(Γ:Env)(s:Step):Option (Option (I×Bool)):=match s.guard with
 |none=>some none
 |some (a,b)=>match jV s.m env Γ a with
  |some v=>some (some (v,b))
  |none=>none
def xW(P:Program)(need:Nat)(inR:Bool)(call:cJ)(Γ:Env):List Step->List I->List bo->aJ->J->List Hint->jw (fH kL)
 |[],env,d,q,h,ae=>.b4 ⟨.ok env d q h,[],ae⟩
 |s::rest,env,d,q,h,ae=>
  match sJ P need s.m env Γ s.loc s.o with
  |false=>.stop ("an operand " ++s.o.pos) none
  |true=>
   match Fm env Γ s with
   |none=>.stop ("guard " ++s.o.pos) none
   |some gd=>match sI P inR call gd s.o (jx P need s.m env Γ s.loc) d q h ae with
    |.b4 ⟨.ok v d' aR ai,cs,cZ⟩=>match xW P need inR call Γ rest (v::env) d' aR ai cZ with
     |.b4 ⟨x,bq,qT⟩=>.b4 ⟨x,cs++bq,qT⟩
     |.stop w x=>.stop w x
    |.b4 ⟨.bm v d' aR ai,cs,cZ⟩=>.b4 ⟨.bm v d' aR ai,cs,cZ⟩
    |.stop w x=>.stop w x
def nf(need m:Nat)(env:List I)(e9:Env):List (Nat×Acc)->Env->Env
 |[],Γ=>Γ
 |(t,a)::l,Γ=>
  match Nat.testBit need t with
  |true=>match jV m env e9 a with
   |some v=>put t v (nf need m env e9 l Γ)
   |none=>del t (nf need m env e9 l Γ)
  |false=>nf need m env e9 l Γ
def xX:List (Nat×Acc)->Env->Env
 |[],Γ=>Γ
 |(t,_)::l,Γ=>del t (xX l Γ)
def J.room(h:J)(k:Nat):J:=⟨h.t,h.n+k⟩
@[simp] theorem J.Ud (h:J) (k b:Nat):(h.room k).get b=h.get b:=rfl
@[simp] theorem J.qU (h:J) (k:Nat):(h.room k).n=h.n+k:=rfl
abbrev lV:=List (Nat×Nat×J)
structure iq where
 env:List I
 d:List bo
 q:aJ
 h:J
 aV:lV
def va(P:Program)(need:Nat)(ops:Array Oper)(n:Nat)(env:List I)(Γ:Env)(s:DStep):Option (Option (I×Bool)):=match hg P need ops s.loc s.o with
 |none=>some none
 |some (a,b)=>match jV n env Γ a with
  |some v=>some (some (v,b))
  |none=>none
def qV(s:DStep):lV->Bool
 |[]=>true
 |(e,_,_)::_=>Nat.testBit s.dF e
def ng(P:Program)(t:TypeId)(l c:I)(b:Nat):Option (I×b2):=match P.underlying t,ez l,ez c with
 |some (.slice e),some l,some c=>match P.info? e,dV P e with
  |some i,some z=>match decide (l<=c)&&Nat.ble (c*(i.bytes+1)) 1099511627776&&Nat.beq z.cells.length i.size,(if c*i.size=0 then[] else fc c z.cells) with
   |true,cs=>match cs.all I.cL with
    |true=>some (.slice b 0 l (.exact c),.cells cs e .own 0 0)
    |false=>none
   |_,_=>none
  |_,_=>none
 |_,_,_=>none
def Fo(P:Program)(op:Op)(g:Operand->I)(b:Nat)(v:I)(o:b2):Prop:=match op with
 |.makeSlice t l c=>ng P t (g l) (g c) b=some (v,o)
 |_=>False
theorem Fp{P:Program}{op:Op}{g:Operand->I}{b:Nat}{v:I}{o:b2}(h:Fo P op g b v o):gI P op g b=some (v,o):=by
 cases op<;>first|exact h|exact absurd h id
def Fq(P:Program)(gd:Option (I×Bool))(s:DStep)(g:Operand->I)(b:Nat)(st:iq)(ae:List Hint):jw (fH iq):=
 match gd with
 |none=>match ae with
  |.Mz v o::ae=>.b4 ⟨⟨v::st.env,st.d,st.q,st.h.set b (some o),st.aV⟩,[Fo P s.o.op g b v o],ae⟩
  |ae=>match gI P s.o.op g b with
   |some (v,o)=>.b4 ⟨⟨v::st.env,st.d,st.q,st.h.set b (some o),st.aV⟩,[],ae⟩
   |none=>.stop ("alloc " ++s.o.pos) none
 |some (.bool x,c)=>match ae with
  |.b y::ae=>match y==c with
   |true=>match gI P s.o.op g b with
    |some (v,o)=>.b4 ⟨⟨v::st.env,st.d,st.q,st.h.set b (some o),st.aV⟩,[x=y],ae⟩
    |none=>.stop ("alloc " ++s.o.pos) none
   |false=>.b4 ⟨⟨.aF []::st.env,st.d,st.q,st.h,st.aV⟩,[x=y],ae⟩
  |_=>.stop ("guard " ++s.o.pos) (some x)
 |some (.aF [],_)=>.b4 ⟨⟨.aF []::st.env,st.d,st.q,st.h,st.aV⟩,[],ae⟩
 |_=>.stop ("guard of what " ++s.o.pos) none
def xY(P:Program)(need:Nat)(inR:Bool)(call:cJ)(ops:Array Oper)(Γ:Env)(bW:Nat)(s:DStep)(st:iq)(ae:List Hint):jw (fH iq):=
 match sJ P need s.i st.env Γ s.loc s.o with
 |false=>.stop ("an operand " ++s.o.pos) none
 |true=>match va P need ops s.i st.env Γ s with
  |none=>.stop ("guard " ++s.o.pos) none
  |some gd=>match kindOf P s.o.op with
   |.alloc=>Fq P gd s (jx P need s.i st.env Γ s.loc) (bW+s.i) st ae
   |.pure=>match sI P inR call gd s.o (jx P need s.i st.env Γ s.loc) st.d st.q st.h ae with
    |.b4 ⟨.ok v _ _ _,cs,cZ⟩=>.b4 ⟨⟨v::st.env,st.d,st.q,st.h,st.aV⟩,cs,cZ⟩
    |.b4 ⟨.bm _ _ _ _,_,_⟩=>.stop ("a panic " ++s.o.pos) none
    |.stop w x=>.stop w x
   |.dk=>match qV s st.aV with
    |false=>.stop ("order " ++s.o.pos) none
    |true=>match sI P inR call gd s.o (jx P need s.i st.env Γ s.loc) st.d st.q st.h ae with
     |.b4 ⟨.ok v d' aR ai,cs,cZ⟩=>.b4 ⟨⟨v::st.env,d',aR,ai,(s.i,s.dF,st.h)::st.aV⟩,cs,cZ⟩
     |.b4 ⟨.bm _ _ _ _,_,_⟩=>.stop ("a panic " ++s.o.pos) none
     |.stop w x=>.stop w x
def xZ(P:Program)(need:Nat)(inR:Bool)(call:cJ)(ops:Array Oper)(Γ:Env)(bW:Nat):List DStep->iq->List Hint->jw (fH iq)
 |[],st,ae=>.b4 ⟨st,[],ae⟩
 |s::rest,st,ae=>match xY P need inR call ops Γ bW s st ae with
  |.b4 ⟨bp,cs,cZ⟩=>match xZ P need inR call ops Γ bW rest bp cZ with
   |.b4 ⟨y,bq,qT⟩=>.b4 ⟨y,cs++bq,qT⟩
   |.stop w x=>.stop w x
  |.stop w x=>.stop w x
def AU(P:Program)(need:Nat)(inR:Bool)(call:cJ)(ops:Array Oper)(Γ:Env)(s:DStep)(rest:List DStep)(st:iq)(ae:List Hint):jw (fH (I×iq)):=
 match sJ P need s.i st.env Γ s.loc s.o with
 |false=>.stop ("an operand " ++s.o.pos) none
 |true=>match va P need ops s.i st.env Γ s with
  |none=>.stop ("guard " ++s.o.pos) none
  |some gd=>match kindOf P s.o.op with
   |.dk=>match qV s st.aV with
    |false=>.stop ("order " ++s.o.pos) none
    |true=>match sI P inR call gd s.o (jx P need s.i st.env Γ s.loc) st.d st.q st.h ae with
     |.b4 ⟨.bm v d' aR ai,cs,cZ⟩=>match rest.all (λaD=>Nat.testBit aD.dF s.i) with
      |true=>.b4 ⟨(v,⟨st.env,d',aR,ai,(s.i,s.dF,st.h)::st.aV⟩),cs,cZ⟩
      |false=>.stop ("panic " ++s.o.pos) none
     |_=>.stop ("no panic " ++s.o.pos) none
   |_=>.stop ("no panic " ++s.o.pos) none
def x0(P:Program)(need:Nat)(inR:Bool)(call:cJ)(ops:Array Oper)(Γ:Env)(bW:Nat):List DStep->iq->List Hint->jw (fH (I×iq))
 |[],_,_=>.stop "no panic" none
 |s::rest,st,ae=>match AU P need inR call ops Γ s rest st ae with
  |.b4 y=>.b4 y
  |.stop _ _=>match xY P need inR call ops Γ bW s st ae with
   |.b4 ⟨bp,cs,cZ⟩=>match x0 P need inR call ops Γ bW rest bp cZ with
    |.b4 ⟨y,bq,qT⟩=>.b4 ⟨y,cs++bq,qT⟩
    |.stop w x=>.stop w x
   |.stop w x=>.stop w x
mutual
def I.sound:I->Bool
 |.bad=>false
 |.fn _ a b=>nh a&&nh b
 |.iface _ v=>v.sound
 |.agg l=>nh l
 |.aF l=>nh l
 |_=>true
def nh:List I->Bool
 |[]=>true
 |a::l=>a.sound&&nh l
end
def Fs(o:Oper)(g:Operand->I):Option (Bool×I×I):=match o.op with
 |.pick c a b=>match g c with
  |.bool x=>some (x,g a,g b)
  |_=>none
 |_=>none
def isLen(o:Oper):Bool:=match o.op with
 |.call c=>match c.callee with
  |.builtin .len=>true
  |_=>false
 |_=>false
def vb(P:Program)(o:Oper)(g:Operand->I)(h:J)(v:I):List Prop:=match Fs o g with
 |some (x,a,b)=>[v.sound=true,cond x a b=v]
 |none=>match isLen o with
  |true=>[v.sound=true,jv P o g h v]
  |false=>match AR o g with
   |1=>[v.sound=true,jv P o g h v]
   |_=>match bV P o g h with
    |.val v' _=>[v.sound=true,v'=v]
    |_=>[False]
def lookW(v:I)(q p:Prop):Prop:=match v with
 |.aF []=>q
 |_=>p
def AV(P:Program)(need:Nat)(ops:Array Oper)(Γ:Env)(n:Nat)(env:List I)(s:DStep)(v:I)(h:J):List Prop:=
 match sJ P need n env Γ s.loc s.o,va P need ops n env Γ s with
 |true,some gd=>match gd with
  |none=>vb P s.o (jx P need n env Γ s.loc) h v
  |some (.bool x,b)=>[lookW v ((x==b)=false) (cH (vb P s.o (jx P need n env Γ s.loc) h v))]
  |some (.aF [],_)=>[]
  |_=>[False]
 |_,_=>[False]
def n_(s:DStep)(nx:Option Nat)(aV:lV):Bool:=(match nx with|none=>false|some e=>Nat.testBit s.dF e)||(match aV with|[]=>false|(_,m,_)::_=>Nat.testBit m s.i)
def sK(P:Program)(need:Nat)(ops:Array Oper)(Γ:Env)(n:Nat)(env:List I)(s:DStep)(v:I):Option Nat->J->lV->List Prop
 |nx,h,aV=>
  (match n_ s nx aV with
   |true=>[]
   |false=>AV P need ops Γ n env s v h)++
  (match aV with
   |[]=>[]
   |(e,_,ai)::rest=>sK P need ops Γ n env s v (some e) ai rest)
def x1(P:Program)(need:Nat)(ops:Array Oper)(Γ:Env)(n:Nat)(env:List I)(h:J)(aV:lV):List DStep->List Prop
 |[]=>[]
 |s::rest=>(match Nat.blt s.i n,kindOf P s.o.op with
   |true,.pure=>sK P need ops Γ n env s ((nth (n-1-s.i) env).getD .bad) none h aV
   |_,_=>[])++x1 P need ops Γ n env h aV rest
def x2(P:Program)(need:Nat)(ops:Array Oper)(Γ:Env)(n:Nat)(env:List I)(last:Option Nat)(h:J)(aV:lV):List DStep->List Prop
 |[]=>[]
 |s::rest=>(match Nat.blt s.i n,kindOf P s.o.op with
   |true,.pure=>sK P need ops Γ n env s ((nth (n-1-s.i) env).getD .bad) last h aV
   |_,_=>[])++x2 P need ops Γ n env last h aV rest
def AW(P:Program)(need:Nat)(inR:Bool)(call:cJ)(ops:Array Oper)(st:aQ)(ae:List Hint):jw (fH (bh×aQ)):=
 match x0 P need inR call ops st.Γ st.h.n (dR ops.toList 0 [] []) ⟨[],st.d,st.q,st.h.room ops.size,[]⟩ ae with
 |.b4 ⟨(v,⟨env,d,q,h,(e,m,ay)::aV⟩),cs,cZ⟩=>.b4 ⟨(.bm v,⟨xX (hh ops.toList 0 []) st.Γ,d,q,h⟩),cs++x2 P need ops st.Γ env.length env (some e) ay aV (dR ops.toList 0 [] []),cZ⟩
 |.b4 _=>.stop "no panic" none
 |.stop w x=>.stop w x
def AX(P:Program)(need:Nat)(inR:Bool)(call:cJ)(ops:Array Oper)(st:aQ)(ae:List Hint):jw (fH (bh×aQ)):=
 match xZ P need inR call ops st.Γ st.h.n (dR ops.toList 0 [] []) ⟨[],st.d,st.q,st.h.room ops.size,[]⟩ ae with
 |.b4 ⟨⟨env,d,q,h,aV⟩,cs,cZ⟩=>.b4 ⟨(.nrm,⟨nf need env.length env st.Γ (hh ops.toList 0 []) st.Γ,d,q,h⟩),cs++x1 P need ops st.Γ env.length env h aV (dR ops.toList 0 [] []),cZ⟩
 |.stop _ _=>AW P need inR call ops st ae
def dO(P:Program)(need:Nat)(rd:Option Nat)(call:cJ)(c:Code)(st:aQ)(e:bh)(bp:aQ):Prop:=
 ∀r,Mod r st.Γ->∃r',cQ P need rd call c r st.d st.q st.h=.ok e r' bp.d bp.q bp.h/\Mod r' bp.Γ
def MD(need:Nat)(Γ:Env)(loc:List (Nat×Acc)):kL->Option (bh×aQ)
 |.ok env d q h=>some (.nrm,⟨nf need env.length env Γ loc Γ,d,q,h⟩)
 |.bm v d q h=>some (.bm v,⟨xX loc Γ,d,q,h⟩)
 |.fail _=>none
def jW(P:Program)(need:Nat)(rd:Option Nat)(call:cJ):Code->aQ->List Hint->jw (fH (bh×aQ))
 |.skip,st,ae=>.b4 ⟨(.nrm,st),[],ae⟩
 |.label _,st,ae=>.b4 ⟨(.nrm,st),[],ae⟩
 |.exit id,st,ae=>.b4 ⟨(.exit id,st),[],ae⟩
 |.ret,st,ae=>.b4 ⟨(.ret,st),[],ae⟩
 |.scope b,st,ae=>jW P need rd call b st ae
 |.region id ops draw,st,ae=>
  match draw with
  |false=>
   match xW P need rd.isSome call st.Γ (j_ P need ops).steps [] st.d st.q st.h ae with
   |.b4 ⟨x,cs,cZ⟩=>match MD need st.Γ (j_ P need ops).loc x with
    |some r=>.b4 ⟨r,cs,cZ⟩
    |none=>.stop "region" none
   |.stop w x=>.stop w x
  |true=>AX P need rd.isSome call ops st ae
 |.seq a b,st,ae=>match jW P need rd call a st ae with
  |.b4 ⟨(.nrm,bp),cs,cZ⟩=>match jW P need rd call b bp cZ with
   |.b4 ⟨r,bq,qT⟩=>.b4 ⟨r,cs++bq,qT⟩
   |.stop w x=>.stop w x
  |x=>x
 |.cond c a b,st,ae=>match jV 0 [] st.Γ (bM P need [] c) with
  |some (.bool x)=>match ae with
   |.b true::ae=>match jW P need rd call a st ae with
    |.b4 ⟨r,cs,cZ⟩=>.b4 ⟨r,(x=true)::cs,cZ⟩
    |.stop w x=>.stop w x
   |.b false::ae=>match jW P need rd call b st ae with
    |.b4 ⟨r,cs,cZ⟩=>.b4 ⟨r,(x=false)::cs,cZ⟩
    |.stop w x=>.stop w x
   |_=>.stop "if" (some x)
  |_=>.stop "if what" none
 |.block id b,st,ae=>match jW P need rd call b st ae with
  |.b4 ⟨(.exit i,bp),cs,cZ⟩=>match Nat.beq i id with
   |true=>.b4 ⟨(.nrm,bp),cs,cZ⟩
   |false=>.b4 ⟨(.exit i,bp),cs,cZ⟩
  |x=>x
 |.loop b,st,ae=>match ae with
  |.loop e bp::ae=>.b4 ⟨(e,bp),[dO P need rd call (.loop b) st e bp],ae⟩
  |_=>.stop "loop" none
 |.rangeFunc f ps as bS,st,ae=>match ae with
  |.loop e bp::ae=>.b4 ⟨(e,bp),[dO P need rd call (.rangeFunc f ps as bS) st e bp],ae⟩
  |_=>.stop "range over a function" none
 |.goto _,_,_=>.stop "goto" none
 |.refuse _,_,_=>.stop "refuse" none
theorem AY:∀(p q:gF),p.num=q.num->p=q
 |.here,.here,_=>rfl
 |.here,.l q,h=>by simp only[gF.num] at h;omega
 |.here,.r q,h=>by simp only[gF.num] at h;omega
 |.l p,.here,h=>by simp only[gF.num] at h;omega
 |.r p,.here,h=>by simp only[gF.num] at h;omega
 |.l p,.l q,h=>by rw[AY p q (by simp only[gF.num] at h;omega)]
 |.r p,.r q,h=>by rw[AY p q (by simp only[gF.num] at h;omega)]
 |.l p,.r q,h=>by simp only[gF.num] at h;omega
 |.r p,.l q,h=>by simp only[gF.num] at h;omega
theorem Ft(p:gF):e2 p.num=p:=AY _ _ (wN _)
theorem qW(t u:Nat):(t=u/\Nat.beq t u=true)\/(t≠u/\Nat.beq t u=false):=by
 by_cases h:t=u
 · exact .inl ⟨h,by simp[h]⟩
 · refine .inr ⟨h,?_⟩
   cases ad:Nat.beq t u with
   |false=>rfl
   |true=>exact absurd (Nat.eq_of_beq_eq_true ad) h
theorem AZ(t u:Nat):∀Γ:Env,cU t (del u Γ)=if t=u then none else cU t Γ
 |[]=>by simp[del,cU]
 |(x,v)::l=>by
  have a7:=AZ t u l
  simp only[del]
  rcases qW u x with⟨e,ad⟩|⟨e,ad⟩
  · rw[ad];simp only[a7,cU]
    subst e
    rcases qW t u with⟨ar,eI⟩|⟨ar,eI⟩
    · rw[if_pos ar,if_pos ar]
    · rw[if_neg ar,if_neg ar,eI]
  · rw[ad];simp only[cU,a7]
    rcases qW t x with⟨ar,eI⟩|⟨ar,eI⟩
    · rw[eI];simp only[]
      rw[if_neg]
      intro h;exact e (by rw[<-h,ar])
    · rw[eI]
theorem ME(t u:Nat)(v:I)(Γ:Env):cU t (put u v Γ)=if t=u then some v else cU t Γ:=by
 simp only[put,cU]
 rcases qW t u with⟨e,ad⟩|⟨e,ad⟩
 · rw[ad,if_pos e]
 · rw[ad,if_neg e,AZ,if_neg e]
theorem Mod.put{r:aC}{Γ:Env}(h:Mod r Γ)(t:Nat)(v:I):Mod (r.set (e2 t) v) (put t v Γ):=by
 intro u x U
 rw[ME] at U
 rw[aC.cv]
 by_cases e:u=t
 · rw[if_pos e] at U⊢;cases U;rfl
 · rw[if_neg e] at U⊢;exact h u x U
theorem Mod.del{r:aC}{Γ:Env}(h:Mod r Γ)(t:Nat)(v:I):Mod (r.set (e2 t) v) (del t Γ):=by
 intro u x U
 rw[AZ] at U
 rw[aC.cv]
 by_cases e:u=t
 · rw[if_pos e] at U;cases U
 · rw[if_neg e] at U⊢;exact h u x U
theorem A0(Γ:Env)(t:Nat)(v:I):∀l,cU t (k2 Γ l)=some v->cU t Γ=some v
 |[],h=>by simp[k2,cU] at h
 |u::l,h=>by
  simp only[k2] at h
  cases hu:cU u Γ with
  |none=>rw[hu] at h;exact A0 Γ t v l h
  |some x=>
   rw[hu] at h
   simp only[cU] at h
   rcases qW t u with⟨e,ad⟩|⟨e,ad⟩
   · rw[ad] at h;rw[e,hu];exact h
   · rw[ad] at h;exact A0 Γ t v l h
theorem Mod.k2{r:aC}{Γ:Env}(h:Mod r Γ)(l:List Nat):Mod r (k2 Γ l):=λt v bd=>h t v (A0 Γ t v l bd)
theorem pq{m:Nat}{env:List I}{r:aC}{Γ:Env}(hm:Mod r Γ){a:Acc}{v:I}(h:jV m env Γ a=some v):b9 m env r a=v:=by
 cases a with
 |env j=>simp only[jV] at h;simp only[b9,h,Option.getD_some]
 |iF p=>simp only[jV] at h;simp only[b9];rw[<-Ft p];exact hm _ _ h
 |val x=>cases h;rfl
section
variable {P:Program}
theorem pr{o:Oper}{g:Operand->I}{h:J}{v:I}(ab:jv P o g h v):bV P o g h=.val v h:=by
 obtain⟨dst,op,type,pos,after,guard⟩:=o
 cases op<;>simp only[jv] at ab<;>(try exact ab.elim)
 case load t a=>
  split at ab
  · rename_i b off n aj aH aB
    simp only[bV,aj,aH,ab,eH]
  · rename_i b off n aj aH aB
    split at ab
    · simp only[bV,aj,aH,aB,ab]
    · exact ab.elim
  · exact ab.elim
 case binOp op t x y yt=>
  split at ab
  · rename_i k a gn b U bc
    split at ab
    · simp only[bV,U,bc,eo,ab,eH]
    · simp only[bV,U,bc,eo,ab,eH]
    · rename_i e8 gM
      split at ab
      · rename_i hk
        have eh:k=gn:=of_decide_eq_true hk
        simp only[bV,U,bc,eo]
        cases op<;>first|exact absurd rfl e8|exact absurd rfl gM|(simp only[if_pos eh,ab,eH])
      · exact ab.elim
  · rename_i a b U bc
    simp only[bV,U,bc,eo,ab,eH]
  · simp only[bV,ab,eH]
 case unOp op t x=>
  split at ab
  · rename_i k n U;simp only[bV,U,ab]
  · rename_i k n U;simp only[bV,U,ab,eH]
  · exact ab.elim
 case slice t x bF ag mx=>simp only[bV,ab,eH]
 case index t x i=>
  split at ab
  · rename_i s n hu U ag
    unfold qS at ab
    simp only[bV,hu,U,ag]
    split at ab
    · rename_i er ad;cases ab;simp only[ad]
    · cases ab
  · rename_i m e cs n hu U ag
    split at ab
    · rename_i sz bg
      simp only[bV,hu,U,ag,bg,if_pos ab.1,ab.2,eH]
    · exact ab.elim
  · exact ab.elim
 case indexAddr t x i=>
  split at ab
  · rename_i m e b off n hu U ag
    split at ab
    · rename_i sz bg
      simp only[bV,hu,U,ag,bg,if_pos ab.1,ab.2]
    · exact ab.elim
  · rename_i e b off m c n hu U ag
    split at ab
    · rename_i sz bg
      simp only[bV,hu,U,ag,bg,if_pos ab.1,ab.2]
    · exact ab.elim
  · exact ab.elim
 case lookup t x i ok=>simp only[bV,ab,eH]
 case entry it=>simp only[bV,ab,eH]
 case convert src dst x=>simp only[bV,ab]
 case call c=>
  split at ab
  · rename_i x t hF fG bd;simp only[bV,hF,fG,hd,bd,ab,eH]
  · rename_i x t hF fG bd;simp only[bV,hF,fG,hd,bd,ab,eH]
  · rename_i x l _ hF fG;simp only[bV,hF,fG,hd,ab,eH]
  · rename_i x l _ hF fG;simp only[bV,hF,fG,hd,ab,eH]
  · rename_i x t hF fG bd
    simp only[bV,hF,fG]
    simp only[hd,bd] at ab⊢
    exact ab
  · exact ab.elim
theorem Fu:∀(n:Nat) (cs bq:List I),putCells n [I.bad] cs=some bq->False
 |0,[],_,h=>by simp[putCells] at h
 |0,_::_,_,h=>by simp[putCells,I.cL] at h
 |_+1,[],_,h=>by simp[putCells] at h
 |n+1,c::cs,bq,h=>by
  simp only[putCells] at h
  split at h
  · rename_i r ah;exact Fu n cs r ah
  · cases h
theorem MF{h ai:J}{b off:Nat}(ae:aU.storeCells h b off (I.cells .bad)=some ai):False:=by
 unfold aU.storeCells at ae
 split at ae
 · split at ae
   · split at ae
     · rename_i aZ;exact Fu _ _ _ aZ
     · cases ae
   · cases ae
 · cases ae
theorem A1{o:Oper}{g:Operand->I}{h ai:J}{v:I}(ab:sH P o g h v ai):bV P o g h=.val v ai:=by
 obtain⟨dst,op,type,pos,after,guard⟩:=o
 cases op<;>simp only[sH] at ab<;>(try exact ab.elim)
 case store t a x=>
  split at ab
  · rename_i b off aj
    obtain⟨h1,aa,rfl⟩:=ab
    simp only[bV,aj]
    rw[h1]
    have ad:g x≠ .bad:=λad=>by
     rw[ad] at aa
     exact MF aa
    cases ph:g x<;>first|exact absurd ph ad|(rw[ph] at aa;simp[aa,nN])
  · exact ab.elim
 case convert src dst x=>simp only[bV,ab]
 case mapUpdate t m k x=>obtain⟨h1,rfl⟩:=ab;simp only[bV,h1,nN]
 case insert t m k x=>obtain⟨h1,rfl⟩:=ab;simp only[bV,h1,nN]
 case mapEntry t m k=>simp only[bV,ab,jL]
 case entryStore t m s x=>obtain⟨h1,rfl⟩:=ab;simp only[bV,h1,nN]
 case next it isStr=>simp only[bV,ab,jL]
 case range t x=>
  split at ab
  · rename_i cq eX hu
    unfold xS at ab
    split at ab
    · rename_i m aj
      split at ab
      · rename_i es c hm
        cases ab
        simp only[bV,hu,aj,hm]
      · cases ab
    · cases ab
  · exact ab.elim
 case makeSlice t l c=>
  unfold Fk at ab
  simp only[bV]
  split at ab
  · rename_i e jP c' hu aq uX
    split at ab
    · rename_i i z ag aL
      simp only[hu,aq,uX,ag,aL]
      split at ab
      · rename_i iZ
        rw[if_pos iZ]
        split at ab
        · rename_i b af aB;cases ab;simp only[aB]
        · cases ab
      · cases ab
    · cases ab
  · cases ab
 case call c=>
  split at ab
  · rename_i x y t hF fG bd;simp only[bV,hF,fG,hd,bd,ab,jL]
  · rename_i x y t hF fG bd;simp only[bV,hF,fG,hd,bd,ab,jL]
  · rename_i x t hF fG bd;simp only[bV,hF,fG,hd,bd,ab,jL]
  · rename_i x y t hF fG bd;simp only[bV,hF,fG,hd,bd,ab,jL]
  · rename_i x y t hF fG bd;simp only[bV,hF,fG,hd,bd,ab,jL]
  · exact ab.elim
variable {inR:Bool} {call:cJ}
theorem Fv{pos:String}{f:cM}{args:List I}{d:List bo}{q:aJ}{h:J}{ae:List Hint}{y:fH k3}(U:xU call pos f args d q h ae=.b4 y)(ab:cH y.cs):tL d q (call f args h)=y.res.res:=by
 unfold xU at U
 split at U
 · cases U;rw[ab.1];rfl
 · cases U;rw[ab.1];rfl
 · cases U
theorem MG{o:Oper}{g:Operand->I}{d:List bo}{q:aJ}{h:J}{ae:List Hint}{y:fH k3}(U:AS P inR call o g d q h ae=.b4 y)(ab:cH y.cs):
  c5 P inR call none o g d q h=y.res.res:=by
 unfold AS at U
 unfold c5
 simp only[c8]
 split at U
 · cases U
   rw[pr ab.1];rfl
 · split at U
   · rename_i e x cZ ba
     cases U
     have h1:(g x).cells.all I.cL=true:=ab.1.h
     have he:o.op=.box e x:=by
      unfold Fl at ba
      split at ba
      · split at ba
        · rename_i he;cases ba;exact he
        · cases ba
      · cases ba
     have:bV P o g h=.val (.ptr h.n 0) (h.push (.cells (g x).cells e .own 0 0)):=by
      unfold bV;rw[he];simp only[newRow,h1]
     rw[this];rfl
   · split at U
     · split at U
       · rename_i dr;cases U;rw[dr];rfl
       · rename_i dr;cases U;rw[dr];rfl
       · rename_i dr;rw[dr];exact Fv U ab
       · rename_i dr;rw[dr];exact Fv U ab
       · rename_i z dr
         split at U
         · cases U
         · cases U;rw[dr];rfl
       · rename_i dr
         split at U
         · cases U
         · split at U
           · cases U;rw[dr];rfl
           · cases U;rw[dr];rfl
           · cases U;rw[dr];rfl
       · cases U
     · split at U
       · cases U
         rw[pr ab.1];rfl
       · cases U
     · split at U
       · cases U
         rw[A1 ab.1];rfl
       · cases U
theorem Fw{o:Oper}{g:Operand->I}{d:List bo}{q:aJ}{h:J}{ae:List Hint}{y:fH k3}(U:xV P inR call o g d q h ae=.b4 y)(ab:cH y.cs):
  c5 P inR call none o g d q h=y.res.res:=by
 unfold xV at U
 cases aZ:AT o g d q h ae with
 |none=>rw[aZ] at U;exact MG U ab
 |some z=>
  rw[aZ] at U
  simp only at U
  subst U
  unfold AT at aZ
  split at aZ
  · rename_i eD a b dH
    split at aZ
    · rename_i er aj
      split at aZ
      · cases aZ
        obtain⟨rfl,_⟩:=ab
        unfold c5 bV
        simp[c8,dH,aj,k3.res]
      · cases aZ
        obtain⟨rfl,_⟩:=ab
        unfold c5 bV
        simp[c8,dH,aj,k3.res]
      · cases aZ
    · cases aZ
  · cases aZ
theorem sL{gd:Option (I×Bool)}(hw:c8 gd=some true)(o:Oper)(g:Operand->I)(d:List bo)(q:aJ)(h:J):c5 P inR call gd o g d q h=c5 P inR call none o g d q h:=by
 unfold c5
 rw[hw]
 rfl
theorem vc{gd:Option (I×Bool)}(hw:c8 gd=some false)(o:Oper)(g:Operand->I)(d:List bo)(q:aJ)(h:J):c5 P inR call gd o g d q h=.ok (.aF []) d q h:=by
 unfold c5
 simp only[hw]
theorem vd{gd:Option (I×Bool)}{o:Oper}{g:Operand->I}{d:List bo}{q:aJ}{h:J}{ae:List Hint}{y:fH k3}(U:sI P inR call gd o g d q h ae=.b4 y)(ab:cH y.cs):
  c5 P inR call gd o g d q h=y.res.res:=by
 unfold sI at U
 split at U
 · exact Fw U ab
 · rename_i k4 b
   split at U
   · rename_i c e8
     split at U
     · rename_i iH
       split at U
       · rename_i s il gM dU
         cases U
         obtain⟨rfl,ve⟩:=ab
         rw[sL (by simp only[c8];rw[iH])]
         exact(Fw dU ve:)
       · cases U
     · rename_i iH
       cases U
       obtain⟨rfl,_⟩:=ab
       rw[vc (by simp only[c8];rw[iH])];rfl
   · cases U
 · cases U
   rw[vc rfl];rfl
 · cases U
variable {need:Nat}
theorem x3{m:Nat}{env:List I}{r:aC}{Γ:Env}(hm:Mod r Γ){loc:List (Nat×Acc)}{o:Oper}(hk:sJ P need m env Γ loc o=true):∀x∈o.op.operands,b9 m env r (bM P need loc x)=jx P need m env Γ loc x:=by
 intro x U
 unfold sJ at hk
 rw[List.all_eq_true] at hk
 have:=hk x (by simpa using U)
 obtain⟨v,aI⟩:=Option.isSome_iff_exists.1 this
 unfold jx
 rw[aI,pq hm aI];rfl
theorem Fx{r:aC}{Γ:Env}(hm:Mod r Γ):∀(l:List Step) (env:List I) (d:List bo) (q:aJ) (h:J) (ae:List Hint) (y:fH kL),xW P need inR call Γ l env d q h ae=.b4 y->cH y.cs->
  gH P need inR call r l env d q h=y.res
 |[],env,d,q,h,ae,y,U,ab=>by cases U;rfl
 |s::rest,env,d,q,h,ae,y,U,ab=>by
  simp only[xW] at U
  split at U
  · cases U
  · rename_i hk
    split at U
    · cases U
    · rename_i gd dN
      have key:∀z,c5 P inR call gd s.o (jx P need s.m env Γ s.loc) d q h=z->gH P need inR call r (s::rest) env d q h=match z with
        |.ok v d' aR ai=>gH P need inR call r rest (v::env) d' aR ai
        |.bm v d' aR ai=>.bm v d' aR ai
        |.fail w=>.fail w:=λz aL=>by
       simp only[gH]
       rw[<-aL,<-qM (x3 hm hk)]
       unfold Fm at dN
       cases xP:s.guard with
       |none=>rw[xP] at dN;cases dN;rfl
       |some p=>
        obtain⟨a,b⟩:=p
        rw[xP] at dN
        simp only at dN
        cases aI:jV s.m env Γ a with
        |none=>rw[aI] at dN;cases dN
        |some v=>rw[aI] at dN;cases dN;simp only[pq hm aI];rfl
      split at U
      · rename_i v d' aR ai il e8 et
        split at U
        · rename_i z vf gM jm
          cases U
          obtain⟨c1,c2⟩:=cH.append ab
          have h1:=vd et c1
          have eZ:c5 P inR call gd s.o (jx P need s.m env Γ s.loc) d q h=.ok v d' aR ai:=h1
          rw[key _ eZ]
          exact(Fx hm rest (v::env) d' aR ai e8 _ jm c2:)
        · cases U
      · rename_i v d' aR ai il e8 et
        cases U
        have h1:=vd et ab
        have eZ:c5 P inR call gd s.o (jx P need s.m env Γ s.loc) d q h=.bm v d' aR ai:=h1
        rw[key _ eZ]
      · cases U
theorem vg{m:Nat}{env:List I}{ff:aC}{e9:Env}(hm:Mod ff e9):∀(l:List (Nat×Acc)) (r:aC) (Γ:Env),Mod r Γ->Mod (mc need m env ff l r) (nf need m env e9 l Γ)
 |[],r,Γ,h=>h
 |(t,a)::l,r,Γ,h=>by
  have a7:=vg (m:=m) (env:=env) hm l r Γ h
  simp only[mc,nf]
  cases Nat.testBit need t with
  |false=>exact a7
  |true=>
   simp only
   cases aj:jV m env e9 a with
   |some v=>simp only;rw[pq hm aj];exact a7.put t v
   |none=>simp only;exact a7.del t _
theorem A2:∀(l:List (Nat×Acc)) (r:aC) (Γ:Env),Mod r Γ->Mod (r5 l r) (xX l Γ)
 |[],r,Γ,h=>h
 |(t,a)::l,r,Γ,h=>(A2 l r Γ h).del t _
mutual
theorem qX:∀v:I,v.sound=true->I.beq v v=true
 |.bool b,_=>by simp[I.beq]
 |.int k n,_=>by simp[I.beq,dQ]
 |.str s,_=>by simp[I.beq,hA]
 |.d_,_=>rfl
 |.ptr a i,_=>by simp[I.beq]
 |.bK,_=>rfl
 |.slice a i n c,_=>by cases c<;>simp[I.beq,cy.beq]
 |.gw,_=>rfl
 |.map a,_=>by simp[I.beq]
 |.h8,_=>rfl
 |.fn f a b,h=>by
  simp only[I.sound,Bool.and_eq_true] at h
  simp only[I.beq,vh a h.1,vh b h.2,Bool.and_true]
  simp
 |.bY a,_=>by simp[I.beq]
 |.dY,_=>rfl
 |.iface t v,h=>by
  simp only[I.sound] at h
  simp only[I.beq,qX v h,Bool.and_true]
  simp
 |.agg l,h=>by
  simp only[I.sound] at h
  simp only[I.beq,vh l h]
 |.aF l,h=>by
  simp only[I.sound] at h
  simp only[I.beq,vh l h]
 |.bad,h=>by simp[I.sound] at h
theorem vh:∀l:List I,nh l=true->I.lx l l=true
 |[],_=>rfl
 |a::l,h=>by
  simp only[nh,Bool.and_eq_true] at h
  simp only[I.lx,qX a h.1,vh l h.2,Bool.and_true]
end
theorem A3{ops:Array Oper}{r:aC}{Γ:Env}(hm:Mod r Γ){n:Nat}{env:List I}{s:DStep}{gd:Option (I×Bool)}(h:va P need ops n env Γ s=some gd):eg P need ops r n env s=gd:=by
 unfold va at h
 unfold eg
 split at h
 · rename_i aj;rw[aj];cases h;rfl
 · rename_i a b aj
   rw[aj]
   split at h
   · rename_i v aI
     cases h
     simp only[pq hm aI]
   · cases h
def MH(P:Program)(need:Nat)(inR:Bool)(call:cJ)(ops:Array Oper)(r:aC)(bW:Nat)(s:DStep)(st bp:iq):Prop:=
 ∀rest,e4 P need inR call ops r bW (s::rest) st.env st.d st.q st.h st.aV=e4 P need inR call ops r bW rest bp.env bp.d bp.q bp.h bp.aV
theorem Fy{ops:Array Oper}{r:aC}{Γ:Env}(hm:Mod r Γ){bW:Nat}{s:DStep}{st:iq}{ae:List Hint}{y:fH iq}(U:xY P need inR call ops Γ bW s st ae=.b4 y)(ab:cH y.cs):MH P need inR call ops r bW s st y.res:=by
 intro rest
 unfold xY at U
 split at U
 · cases U
 · rename_i hk
   have aj:=x3 hm hk
   split at U
   · cases U
   · rename_i gd dN
     have al:=A3 hm dN
     split at U
     · rename_i fI
       have aH:=uN (P:=P) (o:=s.o.op) (b:=bW+s.i) aj
       simp only[e4,fI,al]
       rw[aH]
       unfold Fq at U
       split at U
       · split at U
         · cases U
           have e7:=Fp ab.1
           simp only[c8,e7]
         · split at U
           · rename_i v o e7
             cases U
             simp only[c8,e7]
           · cases U
       · split at U
         · rename_i x c _ ir e8
           split at U
           · rename_i A4
             split at U
             · rename_i v o e7
               cases U
               obtain⟨rfl,_⟩:=ab
               simp only[c8,A4,e7]
             · cases U
           · rename_i A4
             cases U
             obtain⟨rfl,_⟩:=ab
             simp only[c8,A4]
         · cases U
       · cases U
         simp only[c8]
       · cases U
     · rename_i fI
       simp only[e4,fI,al]
       rw[qM aj]
       split at U
       · rename_i v d' aR ai il e8 et
         cases U
         have h1:=vd et ab
         have eZ:c5 P inR call gd s.o (jx P need s.i st.env Γ s.loc) st.d st.q st.h=.ok v d' aR ai:=h1
         rw[eZ]
       · cases U
       · cases U
     · rename_i fI
       split at U
       · cases U
       · rename_i jT
         simp only[e4,fI,al]
         rw[qM aj]
         split at U
         · rename_i v d' aR ai il e8 et
           cases U
           have h1:=vd et ab
           have eZ:c5 P inR call gd s.o (jx P need s.i st.env Γ s.loc) st.d st.q st.h=.ok v d' aR ai:=h1
           rw[eZ]
           cases b0:st.aV with
           |nil=>rfl
           |cons a l=>
            obtain⟨e,m,af⟩:=a
            rw[b0] at jT
            simp only[qV] at jT
            simp only[jT]
         · cases U
         · cases U
theorem Fz{ops:Array Oper}{r:aC}{Γ:Env}(hm:Mod r Γ){bW:Nat}:∀(l:List DStep) (st:iq) (ae:List Hint) (y:fH iq),xZ P need inR call ops Γ bW l st ae=.b4 y->cH y.cs->
  e4 P need inR call ops r bW l st.env st.d st.q st.h st.aV=.ok y.res.env y.res.d y.res.q y.res.h y.res.aV
 |[],st,ae,y,U,ab=>by cases U;rfl
 |s::rest,st,ae,y,U,ab=>by
  simp only[xZ] at U
  split at U
  · rename_i st1 il e8 h1
    split at U
    · rename_i eS vf gM aa
      cases U
      obtain⟨c1,c2⟩:=cH.append ab
      rw[Fy hm h1 c1 rest]
      exact(Fz hm rest st1 e8 ⟨eS,vf,gM⟩ aa c2:)
    · cases U
  · cases U
theorem MI{o:Oper}{g:Operand->I}{h:J}{v:I}(ab:cH (vb P o g h v)):∃v' ai,bV P o g h=.val v' ai/\I.beq v' v=true:=by
 unfold vb at ab
 split at ab
 · rename_i x a b aZ
   obtain⟨h1,aa,_⟩:=ab
   refine⟨v,h,?_,qX v h1⟩
   unfold Fs at aZ
   split at aZ
   · rename_i c b1 ib aN
     split at aZ
     · rename_i Ar x4
       cases aZ
       cases x<;>simp only[bV,aN,x4]<;>rw[<-aa]<;>rfl
     · cases aZ
   · cases aZ
 split at ab
 · exact⟨v,h,pr ab.2.1,qX v ab.1⟩
 split at ab
 · exact⟨v,h,pr ab.2.1,qX v ab.1⟩
 · split at ab
   · rename_i v' ai he
     obtain⟨h1,rfl,_⟩:=ab
     exact⟨v',ai,he,qX v' h1⟩
   · exact ab.1.elim
theorem FA{ops:Array Oper}{r:aC}{Γ:Env}(hm:Mod r Γ){n:Nat}{env:List I}{s:DStep}{v:I}{h:J}(ab:cH (AV P need ops Γ n env s v h)):fC P need ops r n env s v h=true:=by
 unfold AV at ab
 unfold fC
 split at ab
 · rename_i gd hk dN
   rw[A3 hm dN]
   have aj:=x3 hm hk
   have key:cH (vb P s.o (jx P need n env Γ s.loc) h v)->(match bV P s.o (λx=>b9 n env r (bM P need s.loc x)) h with
     |.val v' _=>I.beq v' v
     |_=>false)=true:=λaq=>by
    rw[uM s.o h aj]
    obtain⟨v',ai,aw,ar⟩:=MI aq
    rw[aw];exact ar
   split at ab
   · simp only[c8];exact key ab
   · rename_i x b
     simp only[c8]
     obtain⟨ab,_⟩:=ab
     unfold lookW at ab
     split at ab
     · rw[ab]
     · cases zT:(x==b) with
       |false=>rfl
       |true=>exact key ab
   · rfl
   · exact ab.1.elim
 · exact ab.1.elim
theorem x5{ops:Array Oper}{r:aC}{n:Nat}{env:List I}{s:DStep}{v:I}(nx:Option Nat)(h:J)(aV:lV):jk P need ops r n env s v nx h aV=
  ((match n_ s nx aV with|true=>true|false=>fC P need ops r n env s v h||fC P need ops r n env s v (kM P need ops r n env s nx h))&&(match aV with|[]=>true|(e,_,ai)::rest=>jk P need ops r n env s v (some e) ai rest)):=by
 cases aV<;>(rw[jk.eq_def];rfl)
theorem A5{ops:Array Oper}{r:aC}{Γ:Env}(hm:Mod r Γ){n:Nat}{env:List I}{s:DStep}{v:I}:∀(aV:lV) (nx:Option Nat) (h:J),cH (sK P need ops Γ n env s v nx h aV)->jk P need ops r n env s v nx h aV=true
 |[],nx,h,ab=>by
  rw[x5]
  unfold sK at ab
  obtain⟨c1,_⟩:=cH.append ab
  cases ad:n_ s nx [] with
  |true=>rfl
  |false=>rw[ad] at c1;simp only[Bool.and_true];rw[FA hm c1,Bool.true_or]
 |(e,m,ai)::rest,nx,h,ab=>by
  rw[x5]
  unfold sK at ab
  obtain⟨c1,c2⟩:=cH.append ab
  have a7:=A5 hm rest (some e) ai c2
  cases ad:n_ s nx ((e,m,ai)::rest) with
  |true=>simp only[Bool.true_and];exact a7
  |false=>
   rw[ad] at c1
   simp only
   rw[FA hm c1,Bool.true_or,Bool.true_and];exact a7
theorem FB{ops:Array Oper}{r:aC}{Γ:Env}(hm:Mod r Γ){n:Nat}{env:List I}{h:J}{aV:lV}:∀(l:List DStep),cH (x1 P need ops Γ n env h aV l)->jM P need ops r n env none h aV l=true
 |[],_=>rfl
 |s::rest,ab=>by
  simp only[x1] at ab
  obtain⟨c1,c2⟩:=cH.append ab
  simp only[jM]
  rw[FB hm rest c2,Bool.and_true]
  cases h1:Nat.blt s.i n with
  |false=>rfl
  |true=>
   rw[h1] at c1
   cases aa:kindOf P s.o.op with
   |pure=>rw[aa] at c1;exact A5 hm aV none h c1
   |alloc=>rfl
   |dk=>rfl
theorem MJ{ops:Array Oper}{r:aC}{Γ:Env}(hm:Mod r Γ){bW:Nat}{s:DStep}{rest:List DStep}{st:iq}{ae:List Hint}{y:fH (I×iq)}(U:AU P need inR call ops Γ s rest st ae=.b4 y)(ab:cH y.cs):
  e4 P need inR call ops r bW (s::rest) st.env st.d st.q st.h st.aV=.bm y.res.1 y.res.2.env y.res.2.d y.res.2.q y.res.2.h y.res.2.aV:=by
 unfold AU at U
 split at U
 · cases U
 · rename_i hk
   have aj:=x3 hm hk
   split at U
   · cases U
   · rename_i gd dN
     have al:=A3 hm dN
     split at U
     · rename_i fI
       split at U
       · cases U
       · rename_i jT
         simp only[e4,fI,al]
         rw[qM aj]
         split at U
         · rename_i v d' aR ai il e8 et
           split at U
           · rename_i dn
             cases U
             have h1:=vd et ab
             have eZ:c5 P inR call gd s.o (jx P need s.i st.env Γ s.loc) st.d st.q st.h=.bm v d' aR ai:=h1
             rw[eZ]
             cases b0:st.aV with
             |nil=>simp only[dn]
             |cons a l=>
              obtain⟨e,m,af⟩:=a
              rw[b0] at jT
              simp only[qV] at jT
              simp only[jT,dn]
           · cases U
         · cases U
     · cases U
theorem FC{ops:Array Oper}{r:aC}{Γ:Env}(hm:Mod r Γ){bW:Nat}:∀(l:List DStep) (st:iq) (ae:List Hint) (y:fH (I×iq)),x0 P need inR call ops Γ bW l st ae=.b4 y->cH y.cs->
  e4 P need inR call ops r bW l st.env st.d st.q st.h st.aV=.bm y.res.1 y.res.2.env y.res.2.d y.res.2.q y.res.2.h y.res.2.aV
 |[],st,ae,y,U,ab=>by cases U
 |s::rest,st,ae,y,U,ab=>by
  simp only[x0] at U
  split at U
  · rename_i ir h1
    cases U
    exact MJ hm h1 ab
  · split at U
    · rename_i st1 il e8 h1
      split at U
      · rename_i eS vf gM aa
        cases U
        obtain⟨c1,c2⟩:=cH.append ab
        rw[Fy hm h1 c1 rest]
        exact(FC hm rest st1 e8 ⟨eS,vf,gM⟩ aa c2:)
      · cases U
    · cases U
theorem FD{ops:Array Oper}{r:aC}{Γ:Env}(hm:Mod r Γ){n:Nat}{env:List I}{last:Option Nat}{h:J}{aV:lV}:∀(l:List DStep),cH (x2 P need ops Γ n env last h aV l)->jM P need ops r n env last h aV l=true
 |[],_=>rfl
 |s::rest,ab=>by
  simp only[x2] at ab
  obtain⟨c1,c2⟩:=cH.append ab
  simp only[jM]
  rw[FD hm rest c2,Bool.and_true]
  cases h1:Nat.blt s.i n with
  |false=>rfl
  |true=>
   rw[h1] at c1
   cases aa:kindOf P s.o.op with
   |pure=>rw[aa] at c1;exact A5 hm aV last h c1
   |alloc=>rfl
   |dk=>rfl
theorem MK{id:Nat}{ops:Array Oper}{rd:Option Nat}{st:aQ}{ae:List Hint}{y:fH (bh×aQ)}(U:AW P need rd.isSome call ops st ae=.b4 y)(ab:cH y.cs):dO P need rd call (.region id ops true) st y.res.1 y.res.2:=by
 unfold AW at U
 split at U
 · rename_i v env d q h e m ay aV il e8 al
   cases U
   obtain⟨c1,c2⟩:=cH.append ab
   intro r hm
   have h1:=FC hm _ _ _ _ al c1
   have aa:=FD hm _ c2
   simp only at h1
   refine⟨_,?_,A2 _ _ _ hm⟩
   have eZ:e4 P need rd.isSome call ops r st.h.n (dR ops.toList 0 [] []) [] st.d st.q ⟨st.h.t,st.h.n+ops.size⟩ []=.bm v env d q h ((e,m,ay)::aV):=h1
   simp only[cQ,p9,eZ,aa,kN]
 · cases U
 · cases U
theorem ML{id:Nat}{ops:Array Oper}{rd:Option Nat}{st:aQ}{ae:List Hint}{y:fH (bh×aQ)}(U:AX P need rd.isSome call ops st ae=.b4 y)(ab:cH y.cs):dO P need rd call (.region id ops true) st y.res.1 y.res.2:=by
 unfold AX at U
 split at U
 · rename_i env d q h aV il e8 al
   cases U
   obtain⟨c1,c2⟩:=cH.append ab
   intro r hm
   have h1:=Fz hm _ _ _ _ al c1
   have aa:=FB hm _ c2
   simp only at h1
   refine⟨_,?_,vg hm _ _ _ hm⟩
   have eZ:e4 P need rd.isSome call ops r st.h.n (dR ops.toList 0 [] []) [] st.d st.q ⟨st.h.t,st.h.n+ops.size⟩ []=.ok env d q h aV:=h1
   simp only[cQ,p9,eZ,aa,kN]
 · exact MK U ab
variable {rd:Option Nat}
theorem ni:∀(c:Code) (st:aQ) (ae:List Hint) (y:fH (bh×aQ)),jW P need rd call c st ae=.b4 y->cH y.cs->dO P need rd call c st y.res.1 y.res.2
 |.skip,st,ae,y,U,ab=>by cases U;exactλr ah=>⟨r,rfl,ah⟩
 |.label _,st,ae,y,U,ab=>by cases U;exactλr ah=>⟨r,rfl,ah⟩
 |.exit id,st,ae,y,U,ab=>by cases U;exactλr ah=>⟨r,rfl,ah⟩
 |.ret,st,ae,y,U,ab=>by cases U;exactλr ah=>⟨r,rfl,ah⟩
 |.scope b,st,ae,y,U,ab=>ni b st ae y U ab
 |.region id ops draw,st,ae,y,U,ab=>by
  simp only[jW] at U
  cases draw with
  |true=>exact ML U ab
  |false=>
   simp only at U
   split at U
   · rename_i x il e8 b0
     split at U
     · rename_i aX A6
       cases U
       intro r ah
       have h1:=Fx ah _ _ _ _ _ _ _ b0 ab
       simp only at h1
       simp only[cQ,h1]
       cases x with
       |ok env d q h=>cases A6;exact⟨_,rfl,vg ah _ _ _ ah⟩
       |bm v d q h=>cases A6;exact⟨_,rfl,A2 _ _ _ ah⟩
       |fail w=>cases A6
     · cases U
   · cases U
 |.seq a b,st,ae,y,U,ab=>by
  simp only[jW] at U
  split at U
  · rename_i st1 il e8 aH
    split at U
    · rename_i bx vf gM ad
      cases U
      obtain⟨c1,c2⟩:=cH.append ab
      intro r ah
      obtain⟨aX,h1,m1⟩:=ni a st ae _ aH c1 r ah
      obtain⟨bx,aa,m2⟩:=ni b st1 e8 _ ad c2 aX m1
      exact⟨bx,by simp only at h1 aa;simp only[cQ,h1,nO,aa],m2⟩
    · cases U
  · rename_i cj
    intro r ah
    obtain⟨aX,h1,m1⟩:=ni a st ae y U ab r ah
    refine⟨aX,?_,m1⟩
    simp only[cQ,h1]
    refine qz (λb_=>?_)
    obtain⟨⟨aw,st1⟩,il,e8⟩:=y
    simp only at b_
    subst b_
    exact cj _ _ _ U
 |.cond c a b,st,ae,y,U,ab=>by
  simp only[jW] at U
  split at U
  · rename_i x aj
    split at U
    · split at U
      · rename_i aX il e8 aH
        cases U
        obtain⟨rfl,c1⟩:=ab
        intro r ah
        obtain⟨aX,h1,m1⟩:=ni a st _ _ aH c1 r ah
        exact⟨aX,by simp only at h1;simp only[cQ,pq ah aj,h1],m1⟩
      · cases U
    · split at U
      · rename_i aX il e8 aH
        cases U
        obtain⟨rfl,c1⟩:=ab
        intro r ah
        obtain⟨aX,h1,m1⟩:=ni b st _ _ aH c1 r ah
        exact⟨aX,by simp only at h1;simp only[cQ,pq ah aj,h1],m1⟩
      · cases U
    · cases U
  · cases U
 |.block id b,st,ae,y,U,ab=>by
  simp only[jW] at U
  split at U
  · rename_i i st1 il e8 ad
    split at U
    · rename_i ag
      cases U
      obtain rfl:=Nat.eq_of_beq_eq_true ag
      intro r ah
      obtain⟨aX,h1,m1⟩:=ni b st ae _ ad ab r ah
      exact⟨aX,by simp only at h1;simp only[cQ,h1,if_true],m1⟩
    · rename_i ag
      cases U
      intro r ah
      obtain⟨aX,h1,m1⟩:=ni b st ae _ ad ab r ah
      have cj:¬i=id:=by intro b_;subst b_;simp at ag
      exact⟨aX,by simp only at h1;simp only[cQ,h1,if_neg cj],m1⟩
  · rename_i cj
    intro r ah
    obtain⟨aX,h1,m1⟩:=ni b st ae y U ab r ah
    refine⟨aX,?_,m1⟩
    obtain⟨⟨aw,st1⟩,il,e8⟩:=y
    simp only at h1
    simp only[cQ,h1]
    cases aw<;>first|rfl|exact absurd U (cj _ _ _ _)
 |.loop b,st,ae,y,U,ab=>by
  simp only[jW] at U
  split at U
  · cases U;exact ab.1
  · cases U
 |.rangeFunc f ps as bS,st,ae,y,U,ab=>by
  simp only[jW] at U
  split at U
  · cases U;exact ab.1
  · cases U
 |.goto _,st,ae,y,U,ab=>by cases U
 |.refuse _,st,ae,y,U,ab=>by cases U
end
def sub:Code->List Nat->Code
 |c,[]=>c
 |.seq a _,0::l=>sub a l
 |.seq _ b,_::l=>sub b l
 |.cond _ a _,0::l=>sub a l
 |.cond _ _ b,_::l=>sub b l
 |.block _ b,_::l=>sub b l
 |.loop b,_::l=>sub b l
 |.scope b,_::l=>sub b l
 |.rangeFunc _ _ a _,0::l=>sub a l
 |.rangeFunc _ _ _ b,_::l=>sub b l
 |c,_::_=>c
def cS(fn:Func):Code:=fn.body.getD .skip
def eu:Env->Env->Prop
 |[],_=>True
 |(t,v)::l,Γ=>cU t Γ=some v/\eu l Γ
theorem eu.ok:∀{gj Γ:Env},eu gj Γ->∀t v,cU t gj=some v->cU t Γ=some v
 |[],Γ,_,t,v,h=>by simp[cU] at h
 |(u,x)::l,Γ,⟨h1,aa⟩,t,v,h=>by
  simp only[cU] at h
  rcases qW t u with⟨e,ad⟩|⟨e,ad⟩
  · rw[ad] at h;cases h;rw[e];exact h1
  · rw[ad] at h;exact eu.ok aa t v h
theorem Mod.sub{r:aC}{Γ gj:Env}(h:Mod r Γ)(ae:eu gj Γ):Mod r gj:=λt v bd=>h t v (ae.ok t v bd)
section
variable {P:Program} {need:Nat} {rd:Option Nat} {call:cJ}
def x6(fm:List Nat):jw (fH (bh×aQ))->Option (fH (bh×aQ))
 |.b4 ⟨(e,⟨Γ,d,q,h⟩),cs,[]⟩=>some ⟨(e,⟨k2 Γ fm,d,q,h⟩),cs,[]⟩
 |_=>none
theorem MM{c:Code}{st:aQ}{ae:List Hint}{e:bh}{bp:aQ}{cs:List Prop}(fm:List Nat)(U:x6 fm (jW P need rd call c st ae)=some ⟨(e,bp),cs,[]⟩)(ab:cH cs):dO P need rd call c st e bp:=by
 unfold x6 at U
 split at U
 · rename_i aw fo d1 aK h1 il MN
   cases U
   intro r ah
   obtain⟨aX,h1,m1⟩:=ni c st ae _ MN ab r ah
   exact⟨aX,h1,m1.k2 fm⟩
 · cases U
theorem dO.pre{c:Code}{st st1 bp:aQ}{e:bh}(h:dO P need rd call c st e bp)(ae:eu st.Γ st1.Γ)(al:st1.d=st.d)(bj:st1.q=st.q)(af:st1.h=st.h):dO P need rd call c st1 e bp:=by
 intro r ah
 obtain⟨aX,h1,m1⟩:=h r (ah.sub ae)
 exact⟨aX,by rw[al,bj,af];exact h1,m1⟩
theorem dO.post{c:Code}{st bp:aQ}{gj:Env}{e:bh}(h:dO P need rd call c st e bp)(ae:eu gj bp.Γ):dO P need rd call c st e {bp with Γ:=gj}:=by
 intro r ah
 obtain⟨aX,h1,m1⟩:=h r ah
 exact⟨aX,h1,m1.sub ae⟩
def k5(P:Program)(need:Nat)(rd:Option Nat)(call:cJ)(b:Code)(n:Nat)(st:aQ)(e:bh)(bp:aQ):Prop:=
 ∀r,Mod r st.Γ->∃r',mV (cQ P need rd call b) n r st.d st.q st.h=.ok e r' bp.d bp.q bp.h/\Mod r' bp.Γ
theorem k5.step{b:Code}{n:Nat}{st st1 bp:aQ}{e:bh}(h:dO P need rd call b st .nrm st1)(aa:k5 P need rd call b n st1 e bp):k5 P need rd call b (n+1) st e bp:=by
 intro r ah
 obtain⟨aX,aw,m1⟩:=h r ah
 obtain⟨bx,ar,m2⟩:=aa aX m1
 exact⟨bx,by simp only[mV,aw,nO,ar],m2⟩
theorem k5.exit{b:Code}{n:Nat}{st bp:aQ}{e:bh}(h:dO P need rd call b st e bp)(he:e≠ .nrm):k5 P need rd call b (n+1) st e bp:=by
 intro r ah
 obtain⟨aX,aw,m1⟩:=h r ah
 exact⟨aX,by simp only[mV,aw];exact qz he,m1⟩
theorem A7{f:aC->List bo->aJ->J->hP}:∀{n m:Nat},n<=m->∀{r d q h e r' d' aR ai},mV f n r d q h=.ok e r' d' aR ai->mV f m r d q h=.ok e r' d' aR ai
 |0,_,_,_,_,_,_,_,_,_,_,_,h=>by cases h
 |n+1,0,hle,_,_,_,_,_,_,_,_,_,_=>by omega
 |n+1,m+1,hle,r,d,q,h,e,r',d',aR,ai,U=>by
  simp only[mV] at U⊢
  cases hf:f r d q h with
  |fail w=>rw[hf] at U;cases U
  |ok aw aX d1 aK h1=>
   rw[hf] at U
   cases aw<;>simp only[nO] at U⊢ <;>first|exact A7 (by omega) U|exact U
theorem k5.run{b:Code}{n:Nat}{st bp:aQ}{e:bh}(h:k5 P need rd call b n st e bp)(aB:n<=100000):dO P need rd call (.loop b) st e bp:=by
 intro r ah
 obtain⟨aX,aw,m1⟩:=h r ah
 exact⟨aX,by simp only[cQ];exact A7 aB aw,m1⟩
def jy:Nat->List I->Env
 |_,[]=>[]
 |i,v::l=>(i,v)::jy (i+1) l
theorem FE(t:Nat)(v:I):∀(l:List I) (i:Nat),cU t (jy i l)=some v->i<=t/\t<i+l.length/\l[t-i]? =some v
 |[],i,h=>by simp[jy,cU] at h
 |x::l,i,h=>by
  simp only[jy,cU] at h
  rcases qW t i with⟨e,ad⟩|⟨e,ad⟩
  · rw[ad] at h;cases h;subst e;simp
  · rw[ad] at h
    obtain⟨h1,aa,ao⟩:=FE t v l (i+1) h
    refine⟨by omega,by simp;omega,?_⟩
    have:t-i=(t-(i+1))+1:=by omega
    rw[this];simpa using ao
theorem sM(args:List I):Mod (mg 0 args .leaf) (jy 0 args):=by
 intro t v h
 obtain⟨h1,aa,ao⟩:=FE t v args 0 h
 rw[Af,if_pos ⟨h1,aa⟩,ao];rfl
def k6(P:Program)(need:Nat)(Γ:Env)(h:J)(x:ResultVar):Option I:=
 match x with
 |.tmp t=>match Nat.testBit need t with
  |true=>cU t Γ
  |false=>none
 |.cell t ty=>match Nat.testBit need t with
  |true=>match cU t Γ with
   |none=>none
   |some p=>match p,jJ P ty,cG P ty with
    |.ptr b off,some true,some n=>(match loadCells h b off n with|some cs=>some (.agg cs)|none=>none)
    |.ptr b off,some false,_=>aO h b off
    |_,_,_=>none
  |false=>none
theorem MO{Γ:Env}{r:aC}(hm:Mod r Γ){h:J}{x:ResultVar}{v:I}(U:k6 P need Γ h x=some v):oB P need r h x=some v:=by
 cases x with
 |tmp t=>
  simp only[k6,oB] at U⊢
  split at U
  · rename_i ad
    rw[ad];simp only[hm t v U]
  · cases U
 |cell t ty=>
  simp only[k6,oB] at U⊢
  split at U
  · rename_i ad
    rw[ad]
    simp only
    cases aq:cU t Γ with
    |none=>rw[aq] at U;simp at U
    |some p=>rw[aq] at U;rw[hm t p aq];exact U
  · cases U
def jz(P:Program)(need:Nat)(fn:Func)(Γ:Env)(h:J):Option I:=
 match ly (k6 P need Γ h) fn.results.toList with
 |some [v]=>some v
 |some vs=>some (.aF vs)
 |none=>none
theorem FF{Γ:Env}{r:aC}(hm:Mod r Γ){h:J}:∀(l:List ResultVar) (vs:List I),ly (k6 P need Γ h) l=some vs->ly (oB P need r h) l=some vs
 |[],vs,U=>U
 |x::l,vs,U=>by
  simp only[ly] at U⊢
  cases h1:k6 P need Γ h x with
  |none=>rw[h1] at U;simp at U
  |some v=>
   rw[h1] at U
   cases aa:ly (k6 P need Γ h) l with
   |none=>rw[aa] at U;simp at U
   |some ws=>
    rw[aa] at U
    rw[MO hm h1,FF hm l ws aa];exact U
theorem sN{Γ:Env}{r:aC}(hm:Mod r Γ){h:J}{fn:Func}{v:I}(U:jz P need fn Γ h=some v):mh P need fn r h=some v:=by
 unfold jz at U
 unfold mh
 cases aH:ly (k6 P need Γ h) fn.results.toList with
 |none=>rw[aH] at U;cases U
 |some vs=>
  rw[aH] at U
  rw[FF hm _ _ aH];exact U
variable {intr:Nat->List I->J->Option (I×J)}
theorem MP{f:Nat}{fn:Func}{c:Code}{n:Nat}{args:List I}{h:J}(hf:P.funcs[f]? =some fn)(ad:fn.body=some c)(aB:bH fn=need)(ag:intr f args h=none)(hle:Nat.ble args.length fn.ntmps=true)
  {e:bh}{Γ:Env}{q:aJ}{ai:J}(dw:dO P need none (cu P intr n) c ⟨jy 0 args,[],.none,h⟩ e ⟨Γ,[],q,ai⟩)(he:e=.ret\/e=.nrm){v:I}(eQ:jz P need fn Γ ai=some v):
  cu P intr (n+1) (.fn f) args h=.ret v ai:=by
 subst aB
 obtain⟨aX,h1,m1⟩:=dw _ (sM args)
 have ah:=sN m1 eQ
 simp only[cu,ag,oD,hf,ad,iX,hle,h1]
 rcases he with rfl|rfl<;>simp only[lA,gJ,ah]
theorem MQ{f:Nat}{fn:Func}{c:Code}{n:Nat}{args:List I}{h:J}(hf:P.funcs[f]? =some fn)(ad:fn.body=some c)(aB:bH fn=need)(ag:intr f args h=none)(hle:Nat.ble args.length fn.ntmps=true)
  {v:I}{Γ:Env}{q:aJ}{ai:J}(dw:dO P need none (cu P intr n) c ⟨jy 0 args,[],.none,h⟩ (.bm v) ⟨Γ,[],q,ai⟩):
  cu P intr (n+1) (.fn f) args h=.bm v ai:=by
 subst aB
 obtain⟨aX,h1,m1⟩:=dw _ (sM args)
 simp only[cu,ag,oD,hf,ad,iX,hle,h1,lA,gJ]
abbrev br(P:Program)(fn:Func)(rd:Option Nat)(call:cJ)(path:List Nat)(st:aQ)(e:bh)(bp:aQ):Prop:=dO P (bH fn) rd call (sub (cS fn) path) st e bp
abbrev FG(P:Program)(fn:Func)(rd:Option Nat)(call:cJ)(path:List Nat)(st:aQ)(ae:List Hint):jw (fH (bh×aQ)):=jW P (bH fn) rd call (sub (cS fn) path) st ae
theorem MR{fn:Func}{path:List Nat}{st:aQ}{ae:List Hint}{e:bh}{bp:aQ}{cs:List Prop}(fm:List Nat)(U:x6 fm (FG P fn rd call path st ae)=some ⟨(e,bp),cs,[]⟩)(ab:cH cs):br P fn rd call path st e bp:=MM fm U ab
end
theorem FH:∀(c:Code) (x:Nat) (l:List Nat),sub c (x::l)=sub (sub c [x]) l
 |.seq a b,0,l=>by simp[sub]
 |.seq a b,_+1,l=>by simp[sub]
 |.cond _ a b,0,l=>by simp[sub]
 |.cond _ a b,_+1,l=>by simp[sub]
 |.rangeFunc _ _ a b,0,l=>by simp[sub]
 |.rangeFunc _ _ a b,_+1,l=>by simp[sub]
 |.block _ b,x,l=>by simp[sub]
 |.loop b,x,l=>by simp[sub]
 |.scope b,x,l=>by simp[sub]
 |.skip,x,l=>by cases l<;>simp[sub]
 |.region _ _ _,x,l=>by cases l<;>simp[sub]
 |.exit _,x,l=>by cases l<;>simp[sub]
 |.ret,x,l=>by cases l<;>simp[sub]
 |.label _,x,l=>by cases l<;>simp[sub]
 |.goto _,x,l=>by cases l<;>simp[sub]
 |.refuse _,x,l=>by cases l<;>simp[sub]
theorem hG(c:Code):∀(p l:List Nat),sub c (p++l)=sub (sub c p) l
 |[],l=>by simp[sub]
 |x::p,l=>by rw[List.cons_append,FH,hG (sub c [x]) p l,<-FH]
def nj:Code->Bool
 |.seq _ _=>true
 |_=>false
def qY(id:Nat):Code->Bool
 |.block i _=>Nat.beq i id
 |_=>false
def sO:Code->Bool
 |.loop _=>true
 |_=>false
theorem x7{c:Code}(h:nj c=true):c=.seq (sub c [0]) (sub c [1]):=by
 cases c<;>simp[nj,sub] at h⊢
theorem x8{c:Code}{id:Nat}(h:qY id c=true):c=.block id (sub c [0]):=by
 cases c<;>simp only[qY] at h<;>(try (cases h;done))
 obtain rfl:=Nat.eq_of_beq_eq_true h
 simp[sub]
theorem FI{c:Code}(h:sO c=true):c=.loop (sub c [0]):=by
 cases c<;>simp[sO,sub] at h⊢
section
variable {P:Program} {rd:Option Nat} {call:cJ} {fn:Func}
theorem dO.seq{need:Nat}{a b:Code}{st st1 st2:aQ}{e:bh}(h1:dO P need rd call a st .nrm st1)(aa:dO P need rd call b st1 e st2):dO P need rd call (.seq a b) st e st2:=by
 intro r ah
 obtain⟨aX,aw,m1⟩:=h1 r ah
 obtain⟨bx,ar,m2⟩:=aa aX m1
 exact⟨bx,by simp only[cQ,aw,nO,ar],m2⟩
theorem dO.qZ{need:Nat}{a b:Code}{st st1:aQ}{e:bh}(h1:dO P need rd call a st e st1)(he:e≠ .nrm):dO P need rd call (.seq a b) st e st1:=by
 intro r ah
 obtain⟨aX,aw,m1⟩:=h1 r ah
 exact⟨aX,by simp only[cQ,aw];exact qz he,m1⟩
theorem dO.block{need:Nat}{id:Nat}{b:Code}{st st1:aQ}(h1:dO P need rd call b st (.exit id) st1):dO P need rd call (.block id b) st .nrm st1:=by
 intro r ah
 obtain⟨aX,aw,m1⟩:=h1 r ah
 exact⟨aX,by simp only[cQ,aw,if_true],m1⟩
theorem dO.nk{need:Nat}{id:Nat}{b:Code}{st st1:aQ}{e:bh}(h1:dO P need rd call b st e st1)(he:e≠ .exit id):dO P need rd call (.block id b) st e st1:=by
 intro r ah
 obtain⟨aX,aw,m1⟩:=h1 r ah
 refine⟨aX,?_,m1⟩
 simp only[cQ,aw]
 cases e<;>first|rfl|(rename_i i;exact if_neg λh=>he (by rw[h]))
theorem br.seq{p:List Nat}{st st1 st2:aQ}{e:bh}(ae:nj (sub (cS fn) p)=true)(h1:br P fn rd call (p++[0]) st .nrm st1)(aa:br P fn rd call (p++[1]) st1 e st2):br P fn rd call p st e st2:=by
 unfold br at*
 rw[x7 ae]
 rw[hG] at h1 aa
 exact h1.seq aa
theorem br.qZ{p:List Nat}{st st1:aQ}{e:bh}(ae:nj (sub (cS fn) p)=true)(h1:br P fn rd call (p++[0]) st e st1)(he:e≠ .nrm):br P fn rd call p st e st1:=by
 unfold br at*
 rw[x7 ae]
 rw[hG] at h1
 exact h1.qZ he
theorem br.block{p:List Nat}{id:Nat}{st st1:aQ}(ae:qY id (sub (cS fn) p)=true)(h1:br P fn rd call (p++[0]) st (.exit id) st1):br P fn rd call p st .nrm st1:=by
 unfold br at*
 rw[x8 ae]
 rw[hG] at h1
 exact h1.block
theorem br.nk{p:List Nat}{id:Nat}{st st1:aQ}{e:bh}(ae:qY id (sub (cS fn) p)=true)(h1:br P fn rd call (p++[0]) st e st1)(he:e≠ .exit id):br P fn rd call p st e st1:=by
 unfold br at*
 rw[x8 ae]
 rw[hG] at h1
 exact h1.nk he
def gP(P:Program)(fn:Func)(rd:Option Nat)(call:cJ)(p:List Nat)(n:Nat)(st:aQ)(e:bh)(bp:aQ):Prop:=k5 P (bH fn) rd call (sub (cS fn) (p++[0])) n st e bp
theorem gP.step{p:List Nat}{n:Nat}{st st1 bp:aQ}{e:bh}(h:br P fn rd call (p++[0]) st .nrm st1)(aa:gP P fn rd call p n st1 e bp):gP P fn rd call p (n+1) st e bp:=k5.step h aa
theorem gP.exit{p:List Nat}{n:Nat}{st bp:aQ}{e:bh}(h:br P fn rd call (p++[0]) st e bp)(he:e≠ .nrm):gP P fn rd call p (n+1) st e bp:=k5.exit h he
theorem gP.run{p:List Nat}{n:Nat}{st bp:aQ}{e:bh}(ae:sO (sub (cS fn) p)=true)(h:gP P fn rd call p n st e bp)(aB:n<=100000):br P fn rd call p st e bp:=by
 unfold br
 rw[FI ae]
 unfold gP at h
 rw[hG] at h
 exact k5.run h aB
theorem FJ{intr:Nat->List I->J->Option (I×J)}{f:Nat}{n:Nat}{args:List I}{h:J}(hf:P.funcs[f]? =some fn)(ad:fn.body.isSome=true)(ag:intr f args h=none)(hle:Nat.ble args.length fn.ntmps=true)
  {e:bh}{Γ:Env}{q:aJ}{ai:J}(dw:br P fn none (cu P intr n) [] ⟨jy 0 args,[],.none,h⟩ e ⟨Γ,[],q,ai⟩)(he:e=.ret\/e=.nrm){v:I}(eQ:jz P (bH fn) fn Γ ai=some v):
  cu P intr (n+1) (.fn f) args h=.ret v ai:=by
 obtain⟨c,ab⟩:=Option.isSome_iff_exists.1 ad
 have q0:cS fn=c:=by simp[cS,ab]
 unfold br at dw
 rw[q0] at dw
 simp only[sub] at dw
 exact MP hf ab rfl ag hle dw he eQ
theorem A8{intr:Nat->List I->J->Option (I×J)}{f:Nat}{n:Nat}{args:List I}{h:J}(hf:P.funcs[f]? =some fn)(ad:fn.body.isSome=true)(ag:intr f args h=none)(hle:Nat.ble args.length fn.ntmps=true)
  {v:I}{Γ:Env}{q:aJ}{ai:J}(dw:br P fn none (cu P intr n) [] ⟨jy 0 args,[],.none,h⟩ (.bm v) ⟨Γ,[],q,ai⟩):cu P intr (n+1) (.fn f) args h=.bm v ai:=by
 obtain⟨c,ab⟩:=Option.isSome_iff_exists.1 ad
 have q0:cS fn=c:=by simp[cS,ab]
 unfold br at dw
 rw[q0] at dw
 simp only[sub] at dw
 exact MQ hf ab rfl ag hle dw
theorem MS{i m:Nat}(ag:i<m)(hm:m<=1000000000000):arith BinOp.add IntKind.i64 (Int.ofNat i) (Int.ofNat 1)=some (I.int IntKind.i64 (Int.ofNat (i+1))):=by
 have h:=nR (i+1) (by omega)
 have e:Int.ofNat i+Int.ofNat 1=((i+1:Nat):Int):=rfl
 simp only[arith,e,h];rfl
theorem FK{i j:Nat}(h:i+j<=1000000000000):arith BinOp.add IntKind.i64 (Int.ofNat i) (Int.ofNat j)=some (I.int IntKind.i64 (Int.ofNat (i+j))):=by
 have h:=nR (i+j) (by omega)
 have e:Int.ofNat i+Int.ofNat j=((i+j:Nat):Int):=rfl
 simp only[arith,e,h];rfl
theorem sP{a b:Nat}(h:a<b):eW (Int.ofNat a) (Int.ofNat b)=true:=by simp[eW];omega
theorem A9{a b:Nat}(h:¬a<b):eW (Int.ofNat a) (Int.ofNat b)=false:=by simp[eW];omega
theorem FL{s:List UInt8}{i:Nat}(h:i<s.length):qS i s=some (.int .u8 (Int.ofNat (s[i]).toNat)):=by
 unfold qS
 rw[lE,List.getElem?_eq_getElem h]
theorem MT{α:Type}{f g:Nat->α}{m:Nat}(h:(List.range m).map f=(List.range m).map g){c:Nat}(ab:c<m):f c=g c:=by
 have h1:((List.range m).map f)[c]? =((List.range m).map g)[c]? :=by rw[h]
 simpa[ab] using h1
end
structure Ext(B:Nat)(h ai:J):Prop where
 n:h.n<=ai.n
 get:∀b,b<B->ai.get b=h.get b
theorem Ext.refl(B:Nat)(h:J):Ext B h h:=⟨Nat.le_refl _,λ_ _=>rfl⟩
theorem Ext.trans{B mH:Nat}{h h1 aa:J}(hY:B<=mH)(e:Ext B h h1)(b_:Ext mH h1 aa):Ext B h aa:=⟨Nat.le_trans e.n b_.n,λb ad=>(b_.get b (Nat.lt_of_lt_of_le ad hY)).trans (e.get b ad)⟩
theorem Ext.push{B:Nat}{h:J}(hY:B<=h.n)(o:b2):Ext B h (h.push o):=⟨by simp,λb ad=>by rw[J.fO,if_neg (by omega)]⟩
theorem Ext.set{B:Nat}{h:J}{b:Nat}(ad:B<=b)(o:Option b2):Ext B h (h.set b o):=⟨by simp,λc ab=>by rw[J.cv,if_neg (by omega)]⟩
theorem Ext.room(B:Nat)(h:J)(k:Nat):Ext B h (h.room k):=⟨by simp,λ_ _=>rfl⟩
def Row1(B e:Nat)(h:J)(v:I)(xs:List I):Prop:=
 (v=.bK/\xs=[])\/∃b rest,v=.slice b 0 xs.length (.aE 1)/\h.get b=some (.cells (xs++rest) e .aE 0 0)/\B<=b/\b<h.n/\rest.all I.cL=true
theorem x9:∀(l m:List I),takeN l.length (l++m)=some l
 |[],m=>rfl
 |a::l,m=>by simp[takeN,x9 l m]
theorem A_{h:J}{b e bF ag:Nat}{k:e3}{xs rest:List I}(aj:h.get b=some (.cells (xs++rest) e k bF ag)):loadCells h b 0 xs.length=some xs:=by
 simp[loadCells,aj,hc,x9]
theorem FM:∀(l m:List I) (x y:I) (r:List I),x.cL=true->putCells l.length [x] (l++y::r)=some (l++x::r)
 |[],m,x,y,r,U=>by
  simp only[List.length_nil,List.nil_append]
  cases r with
  |nil=>simp[putCells,U]
  |cons z r=>simp[putCells,U]
 |a::l,m,x,y,r,U=>by
  have a7:=FM l m x y r U
  simp only[List.length_cons,List.cons_append,putCells,a7]
section
variable {P:Program}
theorem q1{h:J}{e bytes size need:Nat}{z:I}{cs:List I}{fz:Nat}(h1:iD need bytes=true)(aa:Nat.beq z.cells.length size=true)(ao:cs.all I.cL=true):ma h e bytes size need z cs fz=some (.slice h.n 0 need (.aE size),h.push (.cells cs e .aE 0 fz)):=by
 unfold ma
 rw[h1,aa,ao];rfl
theorem MU{B:Nat}{h:J}{v x:I}{xs:List I}{sT e:TypeId}{xT:Option TypeId}{i:TypeInfo}{z:I}(hY:B<=h.n)(hu:P.underlying sT=some (.slice e))(fs:l_ P xT=true)(ag:P.info? e=some i)(bg:i.size=1)(aL:dV P e=some z)(lN:z.cells.length=1)
  (lM:iD (xs.length+1) i.bytes=true)(U:x.cL=true)(Ba:xs.all I.cL=true)(ah:Row1 B e h v xs):
  ∃v' ai,eA P (h.push (.cells [x] e .own 0 0)) sT xT v (.slice h.n 0 1 (.exact 1))=some (v',ai)/\Row1 B e ai v' (xs++[x])/\Ext B h ai:=by
 have x_:Ext B h (h.push (.cells [x] e .own 0 0)):=Ext.push hY _
 have hH:(h.push (.cells [x] e .own 0 0)).get h.n=some (.cells [x] e .own 0 0):=by rw[J.fO,if_pos rfl]
 have MV:(h.push (.cells [x] e .own 0 0)).n=h.n+1:=rfl
 have FN:∀b,b<h.n->(h.push (.cells [x] e .own 0 0)).get b=h.get b:=λb ad=>by rw[J.fO,if_neg (by omega)]
 generalize h.push (.cells [x] e .own 0 0)=H at x_ hH MV FN⊢
 have oa:hz H 1 (.slice h.n 0 1 (.exact 1))=some (1,[x]):=by
  simp[hz,loadCells,hH,hc,takeN]
 have vi:Nat.beq z.cells.length 1=true:=by rw[lN];rfl
 rcases ah with⟨rfl,rfl⟩|⟨b,rest,rfl,aj,ju,eI,jm⟩
 · refine⟨.slice H.n 0 1 (.aE 1),H.push (.cells [x] e .aE 0 0),?_,.inr ⟨H.n,[],by simp,by rw[J.fO,if_pos rfl];simp,by omega,by simp,rfl⟩,x_.trans (Nat.le_refl _) (Ext.push (by omega) _)⟩
   have Bb:iD 1 i.bytes=true:=by simpa using lM
   have dZ:=q1 (h:=H) (e:=e) (fz:=0) Bb vi (cs:=[x]) (by simp[U])
   simp only[eA,hu,fs,ag,aL,bg,oa,dZ]
 · have ya:H.get b=some (.cells (xs++rest) e .aE 0 0):=(FN b eI).trans aj
   cases rest with
   |cons y r=>
    refine⟨.slice b 0 (xs.length+1) (.aE 1),H.set b (some (.cells (xs++x::r) e .aE 0 0)),?_,.inr ⟨b,r,by simp,by rw[J.cv,if_pos rfl];simp,ju,by simp;omega,by simp at jm;simpa using jm.2⟩,x_.trans (Nat.le_refl _) (Ext.set ju _)⟩
    have hle:Nat.ble (xs.length+1) (xs++y::r).length=true:=by simp
    have aZ:=FM xs [] x y r U
    have sQ:(Nat.beq 1 1&&Nat.blt 0 1)=true:=rfl
    have mI:Nat.ble (0+(xs.length+1)*1) (xs++y::r).length=true:=by rw[Nat.zero_add,Nat.mul_one];exact hle
    have hw:∀m:Nat,jh .aE 0 0 m [x].length=true:=λm=>by unfold jh;simp
    have qC:putCells (0+xs.length*1) [x] (xs++y::r)=some (xs++x::r):=by rw[Nat.zero_add,Nat.mul_one];exact aZ
    simp only[eA,hu,fs,ag,aL,bg,oa,sQ,ya,mI,storeCells,hw,qC]
   |nil=>
    have aq:loadCells H b 0 xs.length=some xs:=A_ ya
    refine⟨.slice (H.set b none).n 0 (xs.length+1) (.aE 1),(H.set b none).push (.cells (xs++[x]) e .aE 0 0),?_,.inr ⟨(H.set b none).n,[],by simp,by rw[J.fO,if_pos rfl];simp,by simp;omega,by simp,rfl⟩,
     x_.trans (Nat.le_refl _) ((Ext.set ju none).trans (Nat.le_refl _) (Ext.push (by simp;omega) _))⟩
    have bN:Nat.ble (xs.length+1) xs.length=false:=by
     cases ad:Nat.ble (xs.length+1) xs.length with
     |false=>rfl
     |true=>simp at ad;omega
    have dn:(xs++[x]).all I.cL=true:=by simp[List.all_append,Ba,U]
    simp only[List.append_nil] at ya
    have sQ:(Nat.beq 1 1&&Nat.blt 0 1)=true:=rfl
    have mI:Nat.ble (0+(xs.length+1)*1) xs.length=false:=by rw[Nat.zero_add,Nat.mul_one];exact bN
    have oT:loadCells H b 0 (xs.length*1)=some xs:=by rw[Nat.mul_one];exact aq
    have Bc:(Nat.ble 0 (0+xs.length*1)&&Nat.beq e e)=true:=by simp
    have dZ:=q1 (h:=H.set b none) (e:=e) (fz:=0-0) lM vi dn
    simp only[eA,hu,fs,ag,aL,bg,oa,sQ,ya,mI,oT,Bc,dZ]
theorem FO{h:J}{t:TypeId}{s:List UInt8}{ag:Nat}{gn:IntKind}(hu:P.underlying t=some .string)(aa:ag<=s.length):
  gp P h t (.str s) none (some (.int gn (Int.ofNat ag))) none=some (.str (s.take ag)):=by
 have cC:Nat.ble s.length s.length=true:=by simp
 have cE:Nat.ble ag s.length=true:=by simpa using aa
 have gr:Nat.ble 0 ag=true:=by simp
 simp only[gp,hu,bounds,ia,ez,cC,cE,gr,lF,List.drop_zero,Nat.sub_zero]
theorem MW{h:J}{t:TypeId}{s:List UInt8}{bF:Nat}{k:IntKind}(hu:P.underlying t=some .string)(aa:bF<=s.length):
  gp P h t (.str s) (some (.int k (Int.ofNat bF))) none none=some (.str (s.drop bF)):=by
 have cC:Nat.ble s.length s.length=true:=by simp
 have cE:Nat.ble bF s.length=true:=by simpa using aa
 simp only[gp,hu,bounds,ia,ez,cC,cE,lF]
 rw[List.take_of_length_le (by simp)]
theorem MX{x y:List UInt8}(h:x.length+y.length<=1000000000000):r0 .add x y=some (.str (x++y)):=by
 have:¬(((x.length+y.length:Nat):Int)>IntKind.i64.max):=by
  have e:IntKind.i64.max=9223372036854775807:=rfl
  rw[e];omega
 simp only[r0,if_neg this]
end
variable {P:Program} {call:cJ}
def Bd(l:Nat)(e:bh)(need:Nat)(r:aC)(ps:List Nat)(as bS:Code)(ct:Nat)(h:J):bL:=match e with
 |.nrm=>.ret (.bool true) (h.set l (some (.loop .ready none need r ps as bS ct)))
 |.ret=>.ret (.bool false) (h.set l (some (.loop .done (some .ret) need r ps as bS ct)))
 |.exit id=>.ret (.bool false) (h.set l (some (.loop .done (some (.exit id)) need r ps as bS ct)))
 |.bm v=>.bm v h
 |.goto _=>.fail ""
theorem MY{l need t ct:Nat}{Γ fo gj:Env}{as bS:Code}{v:I}{h aa:J}{q a_:aJ}{e:bh}{r:aC}
  (aj:h.get l=some (.loop .ready none need r [t] as bS ct))(hm:Mod r Γ)
  (aH:dO P need (some l) call as ⟨put t v Γ,[],.none,h⟩ .nrm ⟨fo,[],q,h⟩)
  (ad:dO P need (some l) call bS ⟨fo,[],.none,h.set l (some (.loop .busy none need r [t] as bS ct))⟩ e ⟨gj,[],a_,aa⟩)
  (hk:aa.get l=some (.loop .busy none need r [t] as bS ct)):
  lB P call l [v] h=Bd l e need r [t] as bS ct aa:=by
 obtain⟨aX,aw,m1⟩:=aH _ (hm.put t v)
 obtain⟨bx,ar,m2⟩:=ad _ m1
 simp only at aw ar
 simp only[lB,aj,qa,aw,wL,ar]
 simp only[r8,hk]
 cases e<;>rfl
theorem jA{h:J}{b t:Nat}{x:I}(aj:h.get b=some (.cells [x] t .own 0 0)):aO h b 0=some x:=by
 simp only[aO,aj];rfl
theorem q2{h:J}{b t:Nat}{x y:I}(bc:y.cL=true)(aj:h.get b=some (.cells [x] t .own 0 0)):aU.storeCells h b 0 [y]=some (h.set b (some (.cells [y] t .own 0 0))):=by
 have hw:jh .own 0 0 0 [y].length=true:=rfl
 simp only[aU.storeCells,aj,hw,putCells,bc]
end aU
namespace aU
open Go
def W(P:Program)(need:Nat)(rd:Option Nat)(call:cJ)(c:Code)(Q:bh->aC->List bo->aJ->J->Prop)(r:aC)(d:List bo)(q:aJ)(h:J):Prop:=
 ∃e r' d' aR ai,cQ P need rd call c r d q h=.ok e r' d' aR ai/\Q e r' d' aR ai
section
variable {P:Program} {need:Nat} {rd:Option Nat} {call:cJ} {fn:Func}
theorem W.of{c:Code}{Q:bh->aC->List bo->aJ->J->Prop}{r:aC}{st bp:aQ}{e:bh}(ah:dO P need rd call c st e bp)(hm:Mod r st.Γ)(k:∀r',Mod r' bp.Γ->Q e r' bp.d bp.q bp.h):W P need rd call c Q r st.d st.q st.h:=by
 obtain⟨r',h1,aa⟩:=ah r hm
 exact⟨e,r',_,_,_,h1,k r' aa⟩
theorem W.seq{a b:Code}{Q:bh->aC->List bo->aJ->J->Prop}{r:aC}{d:List bo}{q:aJ}{h:J}
  (hw:W P need rd call a (λe r d q h=>(e=.nrm/\W P need rd call b Q r d q h)\/(e≠ .nrm/\Q e r d q h)) r d q h):W P need rd call (.seq a b) Q r d q h:=by
 obtain⟨e,aX,d1,aK,h1,aa,ao⟩:=hw
 rcases ao with⟨rfl,ar,bx,d2,a_,aM,bA,dB⟩|⟨cj,bj⟩
 · exact⟨ar,bx,d2,a_,aM,by simp only[cQ,aa,nO,bA],dB⟩
 · exact⟨e,aX,d1,aK,h1,by simp only[cQ,aa];exact qz cj,bj⟩
theorem W.block{id:Nat}{b:Code}{Q:bh->aC->List bo->aJ->J->Prop}{r:aC}{d:List bo}{q:aJ}{h:J}
  (hw:W P need rd call b (λe r d q h=>(e=.exit id/\Q .nrm r d q h)\/(e≠ .exit id/\Q e r d q h)) r d q h):W P need rd call (.block id b) Q r d q h:=by
 obtain⟨e,aX,d1,aK,h1,aa,ao⟩:=hw
 rcases ao with⟨rfl,bj⟩|⟨cj,bj⟩
 · exact⟨.nrm,aX,d1,aK,h1,by simp only[cQ,aa,if_true],bj⟩
 · refine⟨e,aX,d1,aK,h1,?_,bj⟩
   simp only[cQ,aa]
   cases e<;>first|rfl|(rename_i i;exact if_neg λh=>cj (by rw[h]))
abbrev WF(P:Program)(fn:Func)(rd:Option Nat)(call:cJ)(path:List Nat):=W P (bH fn) rd call (sub (cS fn) path)
theorem WF.seq{p:List Nat}{Q:bh->aC->List bo->aJ->J->Prop}{r:aC}{d:List bo}{q:aJ}{h:J}(ae:nj (sub (cS fn) p)=true)
  (hw:WF P fn rd call (p++[0]) (λe r d q h=>(e=.nrm/\WF P fn rd call (p++[1]) Q r d q h)\/(e≠ .nrm/\Q e r d q h)) r d q h):WF P fn rd call p Q r d q h:=by
 unfold WF at*
 rw[x7 ae]
 rw[hG,hG] at hw
 exact hw.seq
theorem WF.block{p:List Nat}{id:Nat}{Q:bh->aC->List bo->aJ->J->Prop}{r:aC}{d:List bo}{q:aJ}{h:J}(ae:qY id (sub (cS fn) p)=true)
  (hw:WF P fn rd call (p++[0]) (λe r d q h=>(e=.exit id/\Q .nrm r d q h)\/(e≠ .exit id/\Q e r d q h)) r d q h):WF P fn rd call p Q r d q h:=by
 unfold WF at*
 rw[x8 ae]
 rw[hG] at hw
 exact hw.block
def Be(f:Operand)(ps:List Nat):Code->Bool
 |.rangeFunc (.tmp g) q3 _ _=>(match f with|.tmp t=>Nat.beq g t|_=>false)&&q3.toList==ps
 |_=>false
theorem MZ{c:Code}{t:Nat}{ps:List Nat}(h:Be (.tmp t) ps c=true):∃q3:Array Nat,q3.toList=ps/\c=.rangeFunc (.tmp t) q3 (sub c [0]) (sub c [1]):=by
 unfold Be at h
 split at h
 · rename_i g q3 a b
   simp only[Bool.and_eq_true] at h
   obtain⟨h1,aa⟩:=h
   obtain rfl:=Nat.eq_of_beq_eq_true h1
   exact⟨q3,eq_of_beq aa,by simp[sub]⟩
 · cases h
theorem W.range{f:Operand}{ps:Array Nat}{as bS:Code}{Γ:Env}{Q:bh->aC->List bo->aJ->J->Prop}{r:aC}{d:List bo}{q:aJ}{h:J}{g:Nat}{caps:List I}
  (hf:jV 0 [] Γ (bM P need [] f)=some (.fn g [] caps))(hm:Mod r Γ)
  (ab:∃e ai,mf (h.n+1) r (.collected h.n::d) q (call (.fn g) (.bY (h.n+1)::caps) ((h.push (.defrd (some []))).push (.loop .ready none need r ps.toList as bS h.n)))=.ok e r (.collected h.n::d) q ai/\Q e r (.collected h.n::d) q ai):
  W P need none call (.rangeFunc f ps as bS) Q r d q h:=by
 obtain⟨e,ai,c1,c2⟩:=ab
 refine⟨e,r,_,q,ai,?_,c2⟩
 have aj:=pq hm hf
 rw[<-c1]
 simp only[cQ,tN,aj,p8,me]
 rfl
theorem WF.range{p:List Nat}{t:Nat}{ps:List Nat}{Γ:Env}{Q:bh->aC->List bo->aJ->J->Prop}{r:aC}{d:List bo}{q:aJ}{h:J}{g:Nat}{caps:List I}(ae:Be (.tmp t) ps (sub (cS fn) p)=true)
  (aB:Nat.testBit (bH fn) t=true)(hf:cU t Γ=some (.fn g [] caps))(hm:Mod r Γ)
  (ab:∃e ai,mf (h.n+1) r (.collected h.n::d) q (call (.fn g) (.bY (h.n+1)::caps) ((h.push (.defrd (some []))).push (.loop .ready none (bH fn) r ps (sub (cS fn) (p++[0])) (sub (cS fn) (p++[1])) h.n)))=.ok e r (.collected h.n::d) q ai/\Q e r (.collected h.n::d) q ai):
  WF P fn none call p Q r d q h:=by
 obtain⟨q3,bj,he⟩:=MZ ae
 unfold WF
 rw[hG,hG] at ab
 rw[he]
 subst bj
 refine W.range (Γ:=Γ) ?_ hm ab
 have:bM P (bH fn) [] (.tmp t)=.iF (e2 t):=by
  unfold bM
  simp only[gx,aB]
 rw[this]
 show cU (e2 t).num Γ=_
 rw[wN];exact hf
theorem M0{intr:Nat->List I->J->Option (I×J)}{f:Nat}{n:Nat}{args:List I}{h:J}{X:bL}(hf:P.funcs[f]? =some fn)(ad:fn.body.isSome=true)(ag:intr f args h=none)(hle:Nat.ble args.length fn.ntmps=true)
  (hw:WF P fn none (cu P intr n) [] (λe r d q ai=>lA P (cu P intr n) fn (.ok e r d q ai)=X) (mg 0 args .leaf) [] .none h):cu P intr (n+1) (.fn f) args h=X:=by
 obtain⟨c,ab⟩:=Option.isSome_iff_exists.1 ad
 have q0:cS fn=c:=by simp[cS,ab]
 obtain⟨e,r,d,q,ai,h1,aa⟩:=hw
 rw[q0] at h1
 simp only[sub] at h1
 simp only[cu,ag,oD,hf,ab,iX,hle,h1,aa]
end
theorem q4:∀l:List UInt8,(cI l).length=l.length
 |[]=>rfl
 |a::l=>by simp[cI,q4 l]
theorem yb:∀l m:List UInt8,cI (l++m)=cI l++cI m
 |[],m=>rfl
 |a::l,m=>by simp[cI,yb l m]
theorem yc:∀l:List UInt8,(cI l).all I.cL=true
 |[]=>rfl
 |a::l=>by rw[cI,List.all_cons,yc l];rfl
theorem Bf:∀l:List UInt8,kK (cI l)=some l
 |[]=>rfl
 |a::l=>by
  have h1:Nat.blt a.toNat 256=true:=by have:=UInt8.toNat_lt a;simp[Nat.blt];omega
  simp only[cI,kK,Bf l,h1,UInt8.ofNat_toNat]
theorem FP:∀(xs eG:List I),xs.all I.cL=true->xs.length<=eG.length->putCells 0 xs eG=some (xs++eG.drop xs.length)
 |[],eG,_,_=>by cases eG<;>simp[putCells]
 |x::xs,[],_,h=>by simp at h
 |x::xs,y::eG,U,h=>by
  simp only[List.all_cons,Bool.and_eq_true] at U
  have a7:=FP xs eG U.2 (by simpa using h)
  simp[putCells,U.1,a7]
theorem Bg:∀(l xs eG:List I),xs.all I.cL=true->xs.length<=eG.length->putCells l.length xs (l++eG)=some (l++(xs++eG.drop xs.length))
 |[],xs,eG,U,h=>by simpa using FP xs eG U h
 |a::l,[],eG,U,h=>by simp[putCells]
 |a::l,x::xs,eG,U,h=>by
  have a7:=Bg l (x::xs) eG U h
  simp only[List.length_cons,List.cons_append,putCells] at a7⊢
  rw[a7]
theorem M1{i j:Nat}(h:i+j<9223372036854775808):arith BinOp.add IntKind.i64 (Int.ofNat i) (Int.ofNat j)=some (I.int IntKind.i64 (Int.ofNat (i+j))):=by
 have h:=nR (i+j) h
 have e:Int.ofNat i+Int.ofNat j=((i+j:Nat):Int):=rfl
 simp only[arith,e,h];rfl
theorem M3{i j:Nat}(aG:j<=i)(h:i<9223372036854775808):arith BinOp.sub IntKind.i64 (Int.ofNat i) (Int.ofNat j)=some (I.int IntKind.i64 (Int.ofNat (i-j))):=by
 have h:=nR (i-j) (by omega)
 have e:Int.ofNat i-Int.ofNat j=((i-j:Nat):Int):=by
  have aw:Int.ofNat i=(i:Int):=rfl
  have ar:Int.ofNat j=(j:Int):=rfl
  rw[aw,ar];omega
 simp only[arith,e,h];rfl
theorem M4{i j:Nat}(h:i*j<9223372036854775808):arith BinOp.mul IntKind.i64 (Int.ofNat i) (Int.ofNat j)=some (I.int IntKind.i64 (Int.ofNat (i*j))):=by
 have h:=nR (i*j) h
 have e:Int.ofNat i*Int.ofNat j=((i*j:Nat):Int):=rfl
 simp only[arith,e,h];rfl
theorem FQ{a b:Nat}(h:a<=b):lv (Int.ofNat a) (Int.ofNat b)=true:=by simp[lv];omega
theorem FR{a b:Nat}(h:¬a<=b):lv (Int.ofNat a) (Int.ofNat b)=false:=by simp[lv];omega
def nm(B e:Nat)(h:J)(v:I)(w:List UInt8):Prop:=
 (v=.bK/\w=[])\/∃c rest,v=.slice c 0 w.length (.aE 1)/\h.get c=some (.cells (cI w++rest) e .aE 0 0)/\B<=c/\c<h.n
theorem nm.ext{B e:Nat}{h ai:J}{v:I}{w:List UInt8}(ad:nm B e h v w)(aB:h.n<=ai.n)(aj:∀c,B<=c->c<h.n->ai.get c=h.get c):nm B e ai v w:=by
 rcases ad with h1|⟨c,rest,h1,aa,ao,aM⟩
 · exact .inl h1
 · exact .inr ⟨c,rest,h1,(aj c ao aM).trans aa,ao,by omega⟩
section
variable {P:Program}
theorem FT{B:Nat}{h:J}{v:I}{w s:List UInt8}{sT e:TypeId}{xT:Option TypeId}{i:TypeInfo}{z:I}(hY:B<=h.n)(hu:P.underlying sT=some (.slice e))(fs:l_ P xT=true)(ag:P.info? e=some i)(bg:i.size=1)(aL:dV P e=some z)(lN:z.cells.length=1)
  (lM:iD (w.length+s.length) i.bytes=true)(ah:nm B e h v w):
  ∃v' ai,eA P h sT xT v (.str s)=some (v',ai)/\nm B e ai v' (w++s)/\Ext B h ai:=by
 have oa:hz h 1 (.str s)=some (s.length,cI s):=rfl
 have vi:Nat.beq z.cells.length 1=true:=by rw[lN];rfl
 rcases ah with⟨rfl,rfl⟩|⟨c,rest,rfl,aj,vj,ve⟩
 · cases s with
   |nil=>exact⟨.bK,h,by simp only[eA,hu,fs,ag,aL,bg];rfl,.inl ⟨rfl,rfl⟩,Ext.refl _ _⟩
   |cons a s=>
    have Bb:iD (a::s).length i.bytes=true:=by simpa using lM
    have dZ:=q1 (h:=h) (e:=e) (fz:=0) Bb vi (yc (a::s))
    refine⟨.slice h.n 0 (a::s).length (.aE 1),h.push (.cells (cI (a::s)) e .aE 0 0),?_,.inr ⟨h.n,[],by simp,by rw[J.fO,if_pos rfl];simp,hY,by simp⟩,Ext.push hY _⟩
    rw[<-dZ]
    simp only[eA,hu,fs,ag,aL,bg,oa]
    rfl
 · cases s with
   |nil=>exact⟨.slice c 0 w.length (.aE 1),h,by simp only[eA,hu,fs,ag,aL,bg];rfl,.inr ⟨c,rest,by simp,by simpa using aj,vj,ve⟩,Ext.refl _ _⟩
   |cons a s=>
    have sQ:(Nat.beq 1 1&&Nat.blt 0 1)=true:=rfl
    by_cases oX:(a::s).length<=rest.length
    · have mI:Nat.ble (0+(w.length+(a::s).length)*1) (cI w++rest).length=true:=by
        simp only[Nat.ble_eq,List.length_append,q4];omega
      have aZ:=Bg (cI w) (cI (a::s)) rest (yc _) (by rw[q4];exact oX)
      have hw:jh .aE 0 0 (0+w.length*1) (cI (a::s)).length=true:=by unfold jh;simp
      have qC:putCells (0+w.length*1) (cI (a::s)) (cI w++rest)=some (cI w++(cI (a::s)++rest.drop (cI (a::s)).length)):=by
       rw[<-aZ,q4];simp
      refine⟨.slice c 0 (w.length+(a::s).length) (.aE 1),h.set c (some (.cells (cI w++(cI (a::s)++rest.drop (cI (a::s)).length)) e .aE 0 0)),?_,.inr ⟨c,rest.drop (cI (a::s)).length,by simp,by rw[J.cv,if_pos rfl,yb];simp,vj,by simpa using ve⟩,Ext.set vj _⟩
      simp only[eA,hu,fs,ag,aL,bg,oa]
      simp only[sQ,List.length_cons,aj]
      simp only[List.length_cons] at mI qC hw
      simp only[mI,aU.storeCells,aj,hw,qC]
    · have mI:Nat.ble (0+(w.length+(a::s).length)*1) (cI w++rest).length=false:=by
        cases ad:Nat.ble (0+(w.length+(a::s).length)*1) (cI w++rest).length with
        |false=>rfl
        |true=>simp only[Nat.ble_eq,List.length_append,q4] at ad;omega
      have aq:loadCells h c 0 (w.length*1)=some (cI w):=by
       have:=A_ (xs:=cI w) aj
       rw[q4] at this;simpa using this
      have dn:(cI w++cI (a::s)).all I.cL=true:=by rw[<-yb];exact yc _
      have Bc:(Nat.ble 0 (0+w.length*1)&&Nat.beq e e)=true:=by simp
      have dZ:=q1 (h:=h.set c none) (e:=e) (fz:=0-0) lM vi dn
      refine⟨.slice (h.set c none).n 0 (w.length+(a::s).length) (.aE 1),(h.set c none).push (.cells (cI w++cI (a::s)) e .aE 0 0),?_,.inr ⟨(h.set c none).n,[],by simp,by rw[J.fO,if_pos rfl,yb];simp,by simp;omega,by simp⟩,
       (Ext.set vj none).trans (Nat.le_refl _) (Ext.push (by simp;omega) _)⟩
      simp only[List.length_cons] at mI dZ
      simp only[eA,hu,fs,ag,aL,bg,oa]
      simp only[sQ,List.length_cons,aj]
      simp only[mI,aq,Bc,dZ]
theorem M5{h:J}{pT u:TypeId}{c e:Nat}{w:List UInt8}{rest:List I}(hw:w≠[])(aq:w.length<=100000000000)(hu:P.underlying pT=some (.pointer u))(he:P.underlyingId e=P.underlyingId u)(ae:cG P e=some 1)(aj:h.get c=some (.cells (cI w++rest) e .aE 0 0)):
  nJ P h pT (.ptr c 0) (.int .i64 (Int.ofNat w.length))=some (.str w,h.set c (some (.cells (cI w++rest) e .fz 0 0))):=by
 have aB:w.length≠0:=by cases w<;>simp at hw⊢
 have bd:takeN w.length (hc 0 (cI w++rest))=some (cI w):=by
  have:=x9 (cI w) rest
  rw[q4] at this;exact this
 have hle:Nat.ble w.length 281474976710656=true:=by simp;omega
 simp only[nJ,ez,if_neg aB,hu,aj,he,ae,hle,bd,Bf]
 simp
end
section
variable {D:Type}
def iu(f:Nat->D)(i:Nat)(v:D):Nat->D:=λj=>if j=i then v else f j
def yd(enc:D->List I)(f:Nat->D):Nat->List I
 |0=>[]
 |n+1=>yd enc f n++enc (f n)
variable {enc:D->List I} {w:Nat}
theorem ye:∀(l m:List I) (n:Nat),l.length=n->takeN n (l++m)=some l
 |l,m,n,h=>by subst h;exact x9 l m
theorem FU:∀(l m:List I),hc l.length (l++m)=m
 |[],m=>by cases m<;>rfl
 |a::l,m=>by simp[hc,FU l m]
end
theorem wrap_u64(n:Nat)(h:n<18446744073709551616):IntKind.wrap .u64 (n:Int)=(n:Int):=by
 have e:((n:Int) %18446744073709551616)=n:=by omega
 have ar:(2:Int)^64=18446744073709551616:=by rfl
 simp only[IntKind.wrap,IntKind.bits,IntKind.signed,ar,e,Bool.false_and,if_neg Bool.false_ne_true]
theorem M6{i j:Nat}(h:i+j<18446744073709551616):arith BinOp.add IntKind.u64 (Int.ofNat i) (Int.ofNat j)=some (I.int IntKind.u64 (Int.ofNat (i+j))):=by
 have h:=wrap_u64 (i+j) h
 have e:Int.ofNat i+Int.ofNat j=((i+j:Nat):Int):=rfl
 simp only[arith,e,h];rfl
theorem M7{i j:Nat}(aG:j<=i)(h:i<18446744073709551616):arith BinOp.sub IntKind.u64 (Int.ofNat i) (Int.ofNat j)=some (I.int IntKind.u64 (Int.ofNat (i-j))):=by
 have h:=wrap_u64 (i-j) (by omega)
 have e:Int.ofNat i-Int.ofNat j=((i-j:Nat):Int):=by
  have aw:Int.ofNat i=(i:Int):=rfl
  have ar:Int.ofNat j=(j:Int):=rfl
  rw[aw,ar];omega
 simp only[arith,e,h];rfl
section
variable {P:Program}
theorem FV:∀(n:Nat) (z:I),fc n [z]=List.replicate n z
 |0,z=>rfl
 |n+1,z=>by rw[fc,FV n z,List.singleton_append,List.replicate_succ]
end
theorem M8{a b:Nat}(h:a=b):dQ (Int.ofNat a) (Int.ofNat b)=true:=by subst h;simp[dQ]
theorem M9{a b:Nat}(h:¬a=b):dQ (Int.ofNat a) (Int.ofNat b)=false:=by
 cases U:dQ (Int.ofNat a) (Int.ofNat b) with
 |false=>rfl
 |true=>simp[dQ] at U;omega
structure k7(p B:Nat)(h ai:J):Prop where
 n:h.n<=ai.n
 get:∀b,b<B->b≠p->ai.get b=h.get b
theorem k7.trans{p B mH:Nat}{h h1 aa:J}(hY:B<=mH)(e:k7 p B h h1)(b_:k7 p mH h1 aa):k7 p B h aa:=⟨Nat.le_trans e.n b_.n,λb ad aZ=>(b_.get b (Nat.lt_of_lt_of_le ad hY) aZ).trans (e.get b ad aZ)⟩
theorem k7.Ue{p B:Nat}{h ai:J}(e:k7 p B h ai)(aZ:B<=p):Ext B h ai:=⟨e.n,λb ad=>e.get b ad (by omega)⟩
theorem Ext.le{B mH:Nat}{h ai:J}(e:Ext mH h ai)(hY:B<=mH):Ext B h ai:=⟨e.n,λb ad=>e.get b (by omega)⟩
theorem cT{h:J}{o:b2}{b:Nat}(ad:b=h.n):(h.push o).get b=some o:=by subst ad;rw[J.fO,if_pos rfl]
theorem b8{h:J}{o:b2}{b:Nat}{x:Option b2}(ad:b<h.n)(U:h.get b=x):(h.push o).get b=x:=by rw[J.fO,if_neg (by omega)];exact U
theorem fw{h:J}{o:b2}{b c:Nat}(ad:b=c):(h.set c (some o)).get b=some o:=by subst ad;rw[J.cv,if_pos rfl]
theorem dt{h:J}{b c:Nat}{o x:Option b2}(ad:¬b=c)(U:h.get b=x):(h.set c o).get b=x:=by rw[J.cv,if_neg ad];exact U
theorem M_{h:J}{k b:Nat}{x:Option b2}(U:h.get b=x):(h.room k).get b=x:=U
theorem Na{B b:Nat}{h g:J}{x:Option b2}(e:Ext B h g)(ad:b<B)(U:h.get b=x):g.get b=x:=(e.get b ad).trans U
theorem Nb{B b p:Nat}{h g:J}{x:Option b2}(e:k7 p B h g)(ad:b<B)(aZ:¬b=p)(U:h.get b=x):g.get b=x:=(e.get b ad aZ).trans U
theorem ld1{h:J}{b off:Nat}{cs:List I}{e bF up:Nat}{k:e3}{v:I}(aj:h.get b=some (.cells cs e k bF up))(aB:nth off cs=some v):aO h b off=some v:=by simp only[aO,aj,aB]
theorem mJ{h:J}{b off m:Nat}{cs vs:List I}{e bF up:Nat}{k:e3}(aj:h.get b=some (.cells cs e k bF up))(aB:takeN m (hc off cs)=some vs):aU.loadCells h b off m=some vs:=by simp only[aU.loadCells,aj,aB]
theorem iM{h:J}{b off:Nat}{xs cs bq:List I}{e bF up:Nat}{k:e3}(aj:h.get b=some (.cells cs e k bF up))(hw:jh k bF up off xs.length=true)(aZ:putCells off xs cs=some bq):aU.storeCells h b off xs=some (h.set b (some (.cells bq e k bF up))):=by simp only[aU.storeCells,aj,hw,aZ]
theorem Ext.nn{B b:Nat}{h g:J}{o:Option b2}(ad:B<=b)(e:Ext B h g):Ext B h (g.set b o):=e.trans (Nat.le_refl _) (Ext.set ad _)
theorem Ext.pt{B:Nat}{h g:J}{o:b2}(hY:B<=g.n)(e:Ext B h g):Ext B h (g.push o):=e.trans (Nat.le_refl _) (Ext.push hY _)
theorem Nc(a b:Int):arith BinOp.sub IntKind.i64 a b=some (I.int IntKind.i64 (IntKind.i64.wrap (a-b))):=rfl
theorem Nd{P:Program}{t e:TypeId}{n b:Nat}{i:TypeInfo}(hu:P.underlying t=some (.slice e))(ag:P.info? e=some i)(bg:i.size=1)(jR:i.bytes=1)(aL:dV P e=some (.int .u8 (Int.ofNat 0)))(hle:n<=1000000):
  ng P t (.int .i64 (Int.ofNat n)) (.int .i64 (Int.ofNat n)) b=some (.slice b 0 n (.exact n),.cells (cI (List.replicate n 0)) e .own 0 0):=by
 have h1:(decide (n<=n)&&Nat.ble (n*(i.bytes+1)) 1099511627776&&Nat.beq (I.cells (.int .u8 (Int.ofNat 0))).length i.size)=true:=by
  rw[jR,bg]
  have:n*(1+1)<=1099511627776:=by omega
  simp[I.cells,this]
 have aM:fc n (I.cells (.int .u8 (Int.ofNat 0)))=List.replicate n (I.int .u8 (Int.ofNat 0)):=FV n _
 have bA:∀n,cI (List.replicate n 0)=List.replicate n (I.int .u8 (Int.ofNat 0)):=by
  intro n
  induction n with
  |zero=>rfl
  |succ n a7=>rw[List.replicate_succ,cI,a7,List.replicate_succ];rfl
 have ao:(List.replicate n (I.int .u8 (Int.ofNat 0))).all I.cL=true:=by
  simp[List.all_replicate,I.cL]
 have dB:(if n*i.size=0 then[] else List.replicate n (I.int .u8 (Int.ofNat 0)))=List.replicate n (I.int .u8 (Int.ofNat 0)):=by
  rw[bg]
  by_cases ay:n*1=0
  · rw[if_pos ay]
    have:n=0:=by omega
    subst this;rfl
  · rw[if_neg ay]
 unfold ng
 simp only[hu,ez,ag,aL,h1,aM,dB,ao,bA]
theorem sR{h:J}{b:Nat}{x:Option b2}(e:h.get b=x:=by repeat (first|with_reducible assumption|(with_reducible refine cT ?_;first|with_reducible rfl|(first|omega|(simp only[J.iY,J.qb,J.qU];omega)))|with_reducible refine M_ ?_|with_reducible refine b8 (by first|omega|(simp only[J.iY,J.qb,J.qU];omega)) ?_|with_reducible exact fw rfl|with_reducible refine dt (by first|omega|(simp only[J.iY,J.qb,J.qU];omega)) ?_|with_reducible refine Na (by with_reducible assumption) (by first|omega|(simp only[J.iY,J.qb,J.qU];omega)) ?_|with_reducible refine Nb (by with_reducible assumption) (by first|omega|(simp only[J.iY,J.qb,J.qU];omega)) (by first|omega|(simp only[J.iY,J.qb,J.qU];omega)) ?_|exact fw rfl|refine dt (by first|omega|(simp only[J.iY,J.qb,J.qU];omega)) ?_)):h.get b=x:=e
end aU
