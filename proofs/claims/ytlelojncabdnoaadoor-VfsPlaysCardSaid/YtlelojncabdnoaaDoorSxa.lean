/-
  PROVED HERE: symbolic runs of the evaluator, and that they are sound (Sxa). No condition beside each statement's own.
-/
import Derived.Test.YtlelojncabdnoaaDoorAed
set_option linter.unusedVariables false
set_option linter.unusedSimpArgs false
namespace aS
open Go
abbrev Env:=List (Nat×I)
def c4(t:Nat):Env->Option I
 |[]=>none
 |(u,v)::l=>match Nat.beq t u with
  |true=>some v
  |false=>c4 t l
def del(t:Nat):Env->Env
 |[]=>[]
 |(u,v)::l=>match Nat.beq t u with
  |true=>del t l
  |false=>(u,v)::del t l
def put(t:Nat)(v:I)(Γ:Env):Env:=(t,v)::del t Γ
def lZ(Γ:Env):List Nat->Env
 |[]=>[]
 |t::l=>match c4 t Γ with
  |some v=>(t,v)::lZ Γ l
  |none=>lZ Γ l
def Mod(r:aN)(Γ:Env):Prop:=∀t v,c4 t Γ=some v->r.get (fA t)=v
structure aB where
 Γ:Env
 d:List bw
 q:az
 h:J
inductive Hint where
 |v (v:I)
 |hz (v:I) (h:J)
 |c (v:I) (h:J)
 |p (v:I) (h:J)
 |b (b:Bool)
 |loop (e:aU) (st:aB)
 |N_ (v:I) (o:b8)
 |o (v:I)
 |BR
def cS:List Prop->Prop
 |[]=>True
 |p::l=>p/\cS l
theorem cS.cons{p:Prop}{l:List Prop}(h:p)(t:cS l):cS (p::l):=⟨h,t⟩
theorem cS.nil:cS []:=trivial
theorem cS.append:∀{l m:List Prop},cS (l++m)->cS l/\cS m
 |[],m,h=>⟨trivial,h⟩
 |p::l,m,h=>⟨⟨h.1,(cS.append h.2).1⟩,(cS.append h.2).2⟩
def kF(m:Nat)(env:List I)(Γ:Env):Acc->Option I
 |.env j=>nth (m-1-j) env
 |.jo p=>c4 p.num Γ
 |.val v=>some v
def BS(o:Oper)(g:Operand->I):Nat:=match o.op with
 |.load .. |.slice .. |.index .. |.indexAddr .. |.lookup .. |.entry .. =>1
 |.binOp op _ x y _=>match op,g x,g y with
  |.eql,.int _ _,.int _ _|.neq,.int _ _,.int _ _|.lss,.int _ _,.int _ _|.leq,.int _ _,.int _ _|.gtr,.int _ _,.int _ _|.geq,.int _ _,.int _ _=>0
  |.eql,.str _,.str _|.neq,.str _,.str _|.lss,.str _,.str _|.leq,.str _,.str _|.gtr,.str _,.str _|.geq,.str _,.str _=>0
  |_,_,_=>1
 |.unOp op _ _=>match op with
  |.not=>0
  |_=>1
 |.convert _ _ x=>match g x with
  |.str _=>2
  |_=>1
 |.range _ x=>match g x with
  |.map _=>2
  |_=>0
 |.store .. |.mapUpdate .. |.mapEntry .. |.entryStore .. |.insert .. |.next .. |.makeSlice .. =>2
 |.call c=>match c.callee with
  |.builtin b=>match b with
   |.len=>match c.args.toList.map g with
    |[.map _]=>1
    |_=>0
   |.cap|.min|.max|.unsafeSliceData=>1
   |.append|.copy|.clear|.delete|.unsafeString=>2
   |_=>0
  |_=>0
 |_=>0
def hb(n:Nat)(s:List UInt8):Option I:=match nth n s with
 |some b=>some (.int .u8 (Int.ofNat b.toNat))
 |none=>none
def j_(P:Program)(o:Oper)(g:Operand->I)(h:J)(v:I):Prop:=match o.op with
 |.load t a=>match g a,jX P t,cQ P t with
  |.ptr b off,some false,some _=>aO h b off=some v
  |.ptr b off,some true,some n=>match v with
   |.agg cs=>loadCells h b off n=some cs
   |_=>False
  |_,_,_=>False
 |.binOp op t x y _=>match g x,g y with
  |.int k a,.int gA b=>match op with
   |.shl=>uQ .shl k a b=some v
   |.shr=>uQ .shr k a b=some v
   |op=>match decide (k=gA) with
    |true=>arith op k a b=some v
    |false=>False
  |.str a,.str b=>oH op a b=some v
  |a,b=>ec P h op t x y a b=some v
 |.slice t x bB ag mx=>fV P h t (g x) (bB.map g) (ag.map g) (mx.map g)=some v
 |.index t x i=>match P.underlying t,g x,eT (g i) with
  |some .string,.str s,some n=>hb n s=some v
  |some (.array m e),.agg cs,some n=>match cQ P e with
   |some sz=>n<m/\lE P e cs (n*sz)=some v
   |none=>False
  |_,_,_=>False
 |.indexAddr t x i=>match P.underlying t,g x,eT (g i) with
  |some (.array m e),.ptr b off,some n=>match cQ P e with
   |some sz=>n<m/\v=.ptr b (off+n*sz)
   |none=>False
  |some (.slice e),.slice b off m c,some n=>match cQ P e with
   |some sz=>n<m/\v=.ptr b (off+n*sz)
   |none=>False
  |_,_,_=>False
 |.lookup t x i ok=>hF P h t (g x) (g i) ok=some v
 |.entry it=>q3 h (g it)=some v
 |.unOp op _ x=>match op,g x with
  |.neg,.int k n=>v=.int k (k.wrap (0-n))
  |.xor,.int k n=>arith .xor k (if k.signed then-1 else k.max) n=some v
  |_,_=>False
 |.convert src dst x=>iB P src dst (g x) h=.val v h
 |.call c=>match c.callee,c.args.toList.map g,c.argTypes[0]? with
  |.builtin .len,[x],some t=>fO P h t x=some v
  |.builtin .cap,[x],some t=>s5 P t x=some v
  |.builtin .min,x::l,_=>gX jZ x l=some v
  |.builtin .max,x::l,_=>gX mV x l=some v
  |.builtin .unsafeSliceData,[x],some t=>hR P .unsafeSliceData #[t] [x] h=.val v h
  |_,_,_=>False
 |_=>False
def Gu(P:Program)(h:J)(t:TypeId)(l c:I):Option (I×J):=match P.underlying t,eT l,eT c with
 |some (.slice e),some l,some c=>match P.info? e,ek P e with
  |some i,some z=>if l<=c&&Nat.ble (c*(i.bytes+1)) 1099511627776&&Nat.beq z.cells.length i.size then(match newRow h e (if c*i.size=0 then[] else fN c z.cells) with
   |some (b,ah)=>some (.slice b 0 l (.exact c),ah)
   |none=>none) else none
  |_,_=>none
 |_,_,_=>none
def yL(h:J):I->Option (I×J)
 |.map m=>match h.get m with
  |some (.map _ c)=>some (.ptr h.n 0,h.push (.mapIter (some m) c [] c))
  |_=>none
 |_=>none
def tM(P:Program)(o:Oper)(g:Operand->I)(h:J)(v:I)(ah:J):Prop:=match o.op with
 |.store t a x=>match g a with
  |.ptr b off=>cQ P t=some (g x).cells.length/\storeCells h b off (g x).cells=some ah/\v=.aF []
  |_=>False
 |.convert src dst x=>iB P src dst (g x) h=.val v ah
 |.mapUpdate t m k x=>lG P h t (g m) (g k) (g x)=some ah/\v=.aF []
 |.insert t m k x=>lG P h t (g m) (g k) (g x)=some ah/\v=.aF []
 |.mapEntry t m k=>xE P h t (g m) (g k)=some (v,ah)
 |.entryStore t m s x=>xF h (g m) (g s) (g x)=some ah/\v=.aF []
 |.next it isStr=>xG h (g it) isStr=some (v,ah)
 |.range t x=>match P.underlying t with
  |some (.map _ _)=>yL h (g x)=some (v,ah)
  |_=>False
 |.makeSlice t l c=>Gu P h t (g l) (g c)=some (v,ah)
 |.call c=>match c.callee,c.args.toList.map g,c.argTypes[0]? with
  |.builtin .append,[x,y],some t=>en P h t c.argTypes[1]? x y=some (v,ah)
  |.builtin .copy,[x,y],some t=>s6 P h t x y=some (v,ah)
  |.builtin .clear,[x],some t=>xB P h t x=some (v,ah)
  |.builtin .delete,[x,y],some t=>q1 P h t x y=some (v,ah)
  |.builtin .unsafeString,[x,y],some t=>oI P h t x y=some (v,ah)
  |_,_,_=>False
 |_=>False
inductive l0 where
 |ok (v:I) (d:List bw) (q:az) (h:J)
 |bu (v:I) (d:List bw) (q:az) (h:J)
def l0.res:l0->uV
 |.ok v d q h=>.ok v d q h
 |.bu v d q h=>.bu v d q h
inductive ka(α:Type 1) where
 |cm (a:α)
 |stop (h6:String) (x:Option Bool)
structure gv(α:Type):Type 1 where
 res:α
 cs:List Prop
 ad:List Hint
structure Oa(l:List I):Prop where
 h:l.all I.ca=true
def yM(call:cJ)(pos:String)(f:cR)(args:List I)(d:List bw)(q:az)(h:J):List Hint->ka (gv l0)
 |.c v ah::ad=>.cm ⟨.ok v d q ah,[call f args h=.ret v ah],ad⟩
 |.p v ah::ad=>.cm ⟨.bu v d q ah,[call f args h=.bu v ah],ad⟩
 |_=>.stop ("call " ++pos) none
def Ob(P:Program)(o:Oper):Bool:=match o.op with
 |.call c=>match c.callee with
  |.builtin b=>match b with
   |.len=>true
   |_=>false
  |_=>false
 |.binOp op t _ _ _=>match op with
  |.eql|.neq=>match P.underlying t with
   |some (.int _)=>false
   |some .string=>false
   |some .bool=>false
   |some _=>true
   |none=>false
  |_=>false
 |_=>false
def Oc(P:Program)(o:Oper):List Hint->Option (I×List Hint)
 |.o v::ad=>match Ob P o with
  |true=>some (v,ad)
  |false=>none
 |_=>none
def Gv(o:Oper):List Hint->Option (TypeId×Operand×List Hint)
 |.BR::ad=>match o.op with
  |.box e x=>some (e,x,ad)
  |_=>none
 |_=>none
def BT(P:Program)(inR:Bool)(call:cJ)(o:Oper)(g:Operand->I)(d:List bw)(q:az)(h:J)(ad:List Hint):ka (gv l0):=
 match Oc P o ad with
 |some (v,ad)=>.cm ⟨.ok v d q h,[j_ P o g h v],ad⟩
 |none=>match Gv o ad with
  |some (e,x,ad)=>.cm ⟨.ok (.ptr h.n 0) d q (h.push (.cells (g x).cells e .own 0 0)),[Oa (g x).cells],ad⟩
  |none=>match BS o g with
   |0=>match b6 P o g h with
    |.val v ah=>.cm ⟨.ok v d q ah,[],ad⟩
    |.bu v ah=>.cm ⟨.bu v d q ah,[],ad⟩
    |.call f args ah=>yM call o.pos (.fn f) args d q ah ad
    |.b7 l args ah=>yM call o.pos (.b7 l) args d q ah ad
    |.mf x=>match inR with
     |true=>.stop "defer" none
     |false=>.cm ⟨.ok (.aF []) (x::d) q h,[],ad⟩
    |.qY=>match inR with
     |true=>.stop "recover" none
     |false=>match q with
      |.none=>.cm ⟨.ok .ej d .none h,[],ad⟩
      |.done v=>.cm ⟨.ok .ej d (.done v) h,[],ad⟩
      |.act v=>.cm ⟨.ok v d (.done v) h,[],ad⟩
    |.fail w=>.stop (w++ " " ++o.pos) none
   |1=>match ad with
    |.v v::ad=>.cm ⟨.ok v d q h,[j_ P o g h v],ad⟩
    |_=>.stop ("value " ++o.pos) none
   |_=>match ad with
    |.hz v ah::ad=>.cm ⟨.ok v d q ah,[tM P o g h v ah],ad⟩
    |_=>.stop ("value and memory " ++o.pos) none
def BU(o:Oper)(g:Operand->I)(d:List bw)(q:az)(h:J)(ad:List Hint):Option (ka (gv l0)):=match o.op with
 |.pick c a b=>match g c with
  |.bool x=>match ad with
   |.b true::ad=>some (.cm ⟨.ok (g a) d q h,[x=true],ad⟩)
   |.b false::ad=>some (.cm ⟨.ok (g b) d q h,[x=false],ad⟩)
   |_=>some (.stop ("pick " ++o.pos) (some x))
  |_=>some (.stop ("pick of what " ++o.pos) none)
 |_=>none
def yN(P:Program)(inR:Bool)(call:cJ)(o:Oper)(g:Operand->I)(d:List bw)(q:az)(h:J)(ad:List Hint):ka (gv l0):=match BU o g d q h ad with
 |some r=>r
 |none=>BT P inR call o g d q h ad
def tN(P:Program)(inR:Bool)(call:cJ)(gd:Option (I×Bool))(o:Oper)(g:Operand->I)(d:List bw)(q:az)(h:J)(ad:List Hint):ka (gv l0):=
 match gd with
 |none=>yN P inR call o g d q h ad
 |some (.bool x,b)=>match ad with
  |.b c::ad=>match c==b with
   |true=>match yN P inR call o g d q h ad with
    |.cm ⟨s,cs,ad⟩=>.cm ⟨s,(x=c)::cs,ad⟩
    |.stop w x=>.stop w x
   |false=>.cm ⟨.ok (.aF []) d q h,[x=c],ad⟩
  |_=>.stop ("guard " ++o.pos) (some x)
 |some (.aF [],_)=>.cm ⟨.ok (.aF []) d q h,[],ad⟩
 |_=>.stop ("guard of what " ++o.pos) none
def tO(P:Program)(need m:Nat)(env:List I)(Γ:Env)(loc:List (Nat×Acc))(o:Oper):Bool:=o.op.operands.toList.all λx=>(kF m env Γ (bX P need loc x)).isSome
def kb(P:Program)(need m:Nat)(env:List I)(Γ:Env)(loc:List (Nat×Acc))(x:Operand):I:=(kF m env Γ (bX P need loc x)).getD .bad
def Gw(env:List I)(Γ:Env)(s:Step):Option (Option (I×Bool)):=match s.guard with
 |none=>some none
 |some (a,b)=>match kF s.m env Γ a with
  |some v=>some (some (v,b))
  |none=>none
def yO(P:Program)(need:Nat)(inR:Bool)(call:cJ)(Γ:Env):List Step->List I->List bw->az->J->List Hint->ka (gv lH)
 |[],env,d,q,h,ad=>.cm ⟨.ok env d q h,[],ad⟩
 |s::rest,env,d,q,h,ad=>
  match tO P need s.m env Γ s.loc s.o with
  |false=>.stop ("an operand " ++s.o.pos) none
  |true=>
   match Gw env Γ s with
   |none=>.stop ("guard " ++s.o.pos) none
   |some gd=>match tN P inR call gd s.o (kb P need s.m env Γ s.loc) d q h ad with
    |.cm ⟨.ok v d' aX ah,cs,dg⟩=>match yO P need inR call Γ rest (v::env) d' aX ah dg with
     |.cm ⟨x,bC,rW⟩=>.cm ⟨x,cs++bC,rW⟩
     |.stop w x=>.stop w x
    |.cm ⟨.bu v d' aX ah,cs,dg⟩=>.cm ⟨.bu v d' aX ah,cs,dg⟩
    |.stop w x=>.stop w x
def oa(need m:Nat)(env:List I)(fI:Env):List (Nat×Acc)->Env->Env
 |[],Γ=>Γ
 |(t,a)::l,Γ=>
  match Nat.testBit need t with
  |true=>match kF m env fI a with
   |some v=>put t v (oa need m env fI l Γ)
   |none=>del t (oa need m env fI l Γ)
  |false=>oa need m env fI l Γ
def yP:List (Nat×Acc)->Env->Env
 |[],Γ=>Γ
 |(t,_)::l,Γ=>del t (yP l Γ)
def J.room(h:J)(k:Nat):J:=⟨h.t,h.n+k⟩
@[simp] theorem J.XC (h:J) (k b:Nat):(h.room k).get b=h.get b:=rfl
@[simp] theorem J.XD (h:J) (k:Nat):(h.room k).n=h.n+k:=rfl
abbrev mE:=List (Nat×Nat×J)
structure je where
 env:List I
 d:List bw
 q:az
 h:J
 a7:mE
def wc(P:Program)(need:Nat)(ops:Array Oper)(n:Nat)(env:List I)(Γ:Env)(s:DStep):Option (Option (I×Bool)):=match hS P need ops s.loc s.o with
 |none=>some none
 |some (a,b)=>match kF n env Γ a with
  |some v=>some (some (v,b))
  |none=>none
def rX(s:DStep):mE->Bool
 |[]=>true
 |(e,_,_)::_=>Nat.testBit s.dU e
def ob(P:Program)(t:TypeId)(l c:I)(b:Nat):Option (I×b8):=match P.underlying t,eT l,eT c with
 |some (.slice e),some l,some c=>match P.info? e,ek P e with
  |some i,some z=>match decide (l<=c)&&Nat.ble (c*(i.bytes+1)) 1099511627776&&Nat.beq z.cells.length i.size,(if c*i.size=0 then[] else fN c z.cells) with
   |true,cs=>match cs.all I.ca with
    |true=>some (.slice b 0 l (.exact c),.cells cs e .own 0 0)
    |false=>none
   |_,_=>none
  |_,_=>none
 |_,_,_=>none
def Gx(P:Program)(op:Op)(g:Operand->I)(b:Nat)(v:I)(o:b8):Prop:=match op with
 |.makeSlice t l c=>ob P t (g l) (g c) b=some (v,o)
 |_=>False
theorem Gy{P:Program}{op:Op}{g:Operand->I}{b:Nat}{v:I}{o:b8}(h:Gx P op g b v o):hs P op g b=some (v,o):=by
 cases op<;>first|exact h|exact absurd h id
def Gz(P:Program)(gd:Option (I×Bool))(s:DStep)(g:Operand->I)(b:Nat)(st:je)(ad:List Hint):ka (gv je):=
 match gd with
 |none=>match ad with
  |.N_ v o::ad=>.cm ⟨⟨v::st.env,st.d,st.q,st.h.set b (some o),st.a7⟩,[Gx P s.o.op g b v o],ad⟩
  |ad=>match hs P s.o.op g b with
   |some (v,o)=>.cm ⟨⟨v::st.env,st.d,st.q,st.h.set b (some o),st.a7⟩,[],ad⟩
   |none=>.stop ("alloc " ++s.o.pos) none
 |some (.bool x,c)=>match ad with
  |.b y::ad=>match y==c with
   |true=>match hs P s.o.op g b with
    |some (v,o)=>.cm ⟨⟨v::st.env,st.d,st.q,st.h.set b (some o),st.a7⟩,[x=y],ad⟩
    |none=>.stop ("alloc " ++s.o.pos) none
   |false=>.cm ⟨⟨.aF []::st.env,st.d,st.q,st.h,st.a7⟩,[x=y],ad⟩
  |_=>.stop ("guard " ++s.o.pos) (some x)
 |some (.aF [],_)=>.cm ⟨⟨.aF []::st.env,st.d,st.q,st.h,st.a7⟩,[],ad⟩
 |_=>.stop ("guard of what " ++s.o.pos) none
def yQ(P:Program)(need:Nat)(inR:Bool)(call:cJ)(ops:Array Oper)(Γ:Env)(cf:Nat)(s:DStep)(st:je)(ad:List Hint):ka (gv je):=
 match tO P need s.i st.env Γ s.loc s.o with
 |false=>.stop ("an operand " ++s.o.pos) none
 |true=>match wc P need ops s.i st.env Γ s with
  |none=>.stop ("guard " ++s.o.pos) none
  |some gd=>match kindOf P s.o.op with
   |.alloc=>Gz P gd s (kb P need s.i st.env Γ s.loc) (cf+s.i) st ad
   |.pure=>match tN P inR call gd s.o (kb P need s.i st.env Γ s.loc) st.d st.q st.h ad with
    |.cm ⟨.ok v _ _ _,cs,dg⟩=>.cm ⟨⟨v::st.env,st.d,st.q,st.h,st.a7⟩,cs,dg⟩
    |.cm ⟨.bu _ _ _ _,_,_⟩=>.stop ("a panic " ++s.o.pos) none
    |.stop w x=>.stop w x
   |.dA=>match rX s st.a7 with
    |false=>.stop ("order " ++s.o.pos) none
    |true=>match tN P inR call gd s.o (kb P need s.i st.env Γ s.loc) st.d st.q st.h ad with
     |.cm ⟨.ok v d' aX ah,cs,dg⟩=>.cm ⟨⟨v::st.env,d',aX,ah,(s.i,s.dU,st.h)::st.a7⟩,cs,dg⟩
     |.cm ⟨.bu _ _ _ _,_,_⟩=>.stop ("a panic " ++s.o.pos) none
     |.stop w x=>.stop w x
def yR(P:Program)(need:Nat)(inR:Bool)(call:cJ)(ops:Array Oper)(Γ:Env)(cf:Nat):List DStep->je->List Hint->ka (gv je)
 |[],st,ad=>.cm ⟨st,[],ad⟩
 |s::rest,st,ad=>match yQ P need inR call ops Γ cf s st ad with
  |.cm ⟨bq,cs,dg⟩=>match yR P need inR call ops Γ cf rest bq dg with
   |.cm ⟨y,bC,rW⟩=>.cm ⟨y,cs++bC,rW⟩
   |.stop w x=>.stop w x
  |.stop w x=>.stop w x
def BV(P:Program)(need:Nat)(inR:Bool)(call:cJ)(ops:Array Oper)(Γ:Env)(s:DStep)(rest:List DStep)(st:je)(ad:List Hint):ka (gv (I×je)):=
 match tO P need s.i st.env Γ s.loc s.o with
 |false=>.stop ("an operand " ++s.o.pos) none
 |true=>match wc P need ops s.i st.env Γ s with
  |none=>.stop ("guard " ++s.o.pos) none
  |some gd=>match kindOf P s.o.op with
   |.dA=>match rX s st.a7 with
    |false=>.stop ("order " ++s.o.pos) none
    |true=>match tN P inR call gd s.o (kb P need s.i st.env Γ s.loc) st.d st.q st.h ad with
     |.cm ⟨.bu v d' aX ah,cs,dg⟩=>match rest.all (λaV=>Nat.testBit aV.dU s.i) with
      |true=>.cm ⟨(v,⟨st.env,d',aX,ah,(s.i,s.dU,st.h)::st.a7⟩),cs,dg⟩
      |false=>.stop ("panic " ++s.o.pos) none
     |_=>.stop ("no panic " ++s.o.pos) none
   |_=>.stop ("no panic " ++s.o.pos) none
def yS(P:Program)(need:Nat)(inR:Bool)(call:cJ)(ops:Array Oper)(Γ:Env)(cf:Nat):List DStep->je->List Hint->ka (gv (I×je))
 |[],_,_=>.stop "no panic" none
 |s::rest,st,ad=>match BV P need inR call ops Γ s rest st ad with
  |.cm y=>.cm y
  |.stop _ _=>match yQ P need inR call ops Γ cf s st ad with
   |.cm ⟨bq,cs,dg⟩=>match yS P need inR call ops Γ cf rest bq dg with
    |.cm ⟨y,bC,rW⟩=>.cm ⟨y,cs++bC,rW⟩
    |.stop w x=>.stop w x
   |.stop w x=>.stop w x
mutual
def I.sound:I->Bool
 |.bad=>false
 |.fn _ a b=>oc a&&oc b
 |.iface _ v=>v.sound
 |.agg l=>oc l
 |.aF l=>oc l
 |_=>true
def oc:List I->Bool
 |[]=>true
 |a::l=>a.sound&&oc l
end
def GA(o:Oper)(g:Operand->I):Option (Bool×I×I):=match o.op with
 |.pick c a b=>match g c with
  |.bool x=>some (x,g a,g b)
  |_=>none
 |_=>none
def isLen(o:Oper):Bool:=match o.op with
 |.call c=>match c.callee with
  |.builtin .len=>true
  |_=>false
 |_=>false
def we(P:Program)(o:Oper)(g:Operand->I)(h:J)(v:I):List Prop:=match GA o g with
 |some (x,a,b)=>[v.sound=true,cond x a b=v]
 |none=>match isLen o with
  |true=>[v.sound=true,j_ P o g h v]
  |false=>match BS o g with
   |1=>[v.sound=true,j_ P o g h v]
   |_=>match b6 P o g h with
    |.val v' _=>[v.sound=true,v'=v]
    |_=>[False]
def lookW(v:I)(q p:Prop):Prop:=match v with
 |.aF []=>q
 |_=>p
def BW(P:Program)(need:Nat)(ops:Array Oper)(Γ:Env)(n:Nat)(env:List I)(s:DStep)(v:I)(h:J):List Prop:=
 match tO P need n env Γ s.loc s.o,wc P need ops n env Γ s with
 |true,some gd=>match gd with
  |none=>we P s.o (kb P need n env Γ s.loc) h v
  |some (.bool x,b)=>[lookW v ((x==b)=false) (cS (we P s.o (kb P need n env Γ s.loc) h v))]
  |some (.aF [],_)=>[]
  |_=>[False]
 |_,_=>[False]
def o8(s:DStep)(nx:Option Nat)(a7:mE):Bool:=(match nx with|none=>false|some e=>Nat.testBit s.dU e)||(match a7 with|[]=>false|(_,m,_)::_=>Nat.testBit m s.i)
def tP(P:Program)(need:Nat)(ops:Array Oper)(Γ:Env)(n:Nat)(env:List I)(s:DStep)(v:I):Option Nat->J->mE->List Prop
 |nx,h,a7=>
  (match o8 s nx a7 with
   |true=>[]
   |false=>BW P need ops Γ n env s v h)++
  (match a7 with
   |[]=>[]
   |(e,_,ah)::rest=>tP P need ops Γ n env s v (some e) ah rest)
def yT(P:Program)(need:Nat)(ops:Array Oper)(Γ:Env)(n:Nat)(env:List I)(h:J)(a7:mE):List DStep->List Prop
 |[]=>[]
 |s::rest=>(match Nat.blt s.i n,kindOf P s.o.op with
   |true,.pure=>tP P need ops Γ n env s ((nth (n-1-s.i) env).getD .bad) none h a7
   |_,_=>[])++yT P need ops Γ n env h a7 rest
def yU(P:Program)(need:Nat)(ops:Array Oper)(Γ:Env)(n:Nat)(env:List I)(last:Option Nat)(h:J)(a7:mE):List DStep->List Prop
 |[]=>[]
 |s::rest=>(match Nat.blt s.i n,kindOf P s.o.op with
   |true,.pure=>tP P need ops Γ n env s ((nth (n-1-s.i) env).getD .bad) last h a7
   |_,_=>[])++yU P need ops Γ n env last h a7 rest
def BX(P:Program)(need:Nat)(inR:Bool)(call:cJ)(ops:Array Oper)(st:aB)(ad:List Hint):ka (gv (aU×aB)):=
 match yS P need inR call ops st.Γ st.h.n (ed ops.toList 0 [] []) ⟨[],st.d,st.q,st.h.room ops.size,[]⟩ ad with
 |.cm ⟨(v,⟨env,d,q,h,(e,m,aA)::a7⟩),cs,dg⟩=>.cm ⟨(.bu v,⟨yP (hT ops.toList 0 []) st.Γ,d,q,h⟩),cs++yU P need ops st.Γ env.length env (some e) aA a7 (ed ops.toList 0 [] []),dg⟩
 |.cm _=>.stop "no panic" none
 |.stop w x=>.stop w x
def BY(P:Program)(need:Nat)(inR:Bool)(call:cJ)(ops:Array Oper)(st:aB)(ad:List Hint):ka (gv (aU×aB)):=
 match yR P need inR call ops st.Γ st.h.n (ed ops.toList 0 [] []) ⟨[],st.d,st.q,st.h.room ops.size,[]⟩ ad with
 |.cm ⟨⟨env,d,q,h,a7⟩,cs,dg⟩=>.cm ⟨(.nrm,⟨oa need env.length env st.Γ (hT ops.toList 0 []) st.Γ,d,q,h⟩),cs++yT P need ops st.Γ env.length env h a7 (ed ops.toList 0 [] []),dg⟩
 |.stop _ _=>BX P need inR call ops st ad
def dy(P:Program)(need:Nat)(rd:Option Nat)(call:cJ)(c:Code)(st:aB)(e:aU)(bq:aB):Prop:=
 ∀r,Mod r st.Γ->∃r',cX P need rd call c r st.d st.q st.h=.ok e r' bq.d bq.q bq.h/\Mod r' bq.Γ
def Od(need:Nat)(Γ:Env)(loc:List (Nat×Acc)):lH->Option (aU×aB)
 |.ok env d q h=>some (.nrm,⟨oa need env.length env Γ loc Γ,d,q,h⟩)
 |.bu v d q h=>some (.bu v,⟨yP loc Γ,d,q,h⟩)
 |.fail _=>none
def kG(P:Program)(need:Nat)(rd:Option Nat)(call:cJ):Code->aB->List Hint->ka (gv (aU×aB))
 |.skip,st,ad=>.cm ⟨(.nrm,st),[],ad⟩
 |.label _,st,ad=>.cm ⟨(.nrm,st),[],ad⟩
 |.exit id,st,ad=>.cm ⟨(.exit id,st),[],ad⟩
 |.ret,st,ad=>.cm ⟨(.ret,st),[],ad⟩
 |.scope b,st,ad=>kG P need rd call b st ad
 |.region id ops draw,st,ad=>
  match draw with
  |false=>
   match yO P need rd.isSome call st.Γ (kX P need ops).steps [] st.d st.q st.h ad with
   |.cm ⟨x,cs,dg⟩=>match Od need st.Γ (kX P need ops).loc x with
    |some r=>.cm ⟨r,cs,dg⟩
    |none=>.stop "region" none
   |.stop w x=>.stop w x
  |true=>BY P need rd.isSome call ops st ad
 |.seq a b,st,ad=>match kG P need rd call a st ad with
  |.cm ⟨(.nrm,bq),cs,dg⟩=>match kG P need rd call b bq dg with
   |.cm ⟨r,bC,rW⟩=>.cm ⟨r,cs++bC,rW⟩
   |.stop w x=>.stop w x
  |x=>x
 |.cond c a b,st,ad=>match kF 0 [] st.Γ (bX P need [] c) with
  |some (.bool x)=>match ad with
   |.b true::ad=>match kG P need rd call a st ad with
    |.cm ⟨r,cs,dg⟩=>.cm ⟨r,(x=true)::cs,dg⟩
    |.stop w x=>.stop w x
   |.b false::ad=>match kG P need rd call b st ad with
    |.cm ⟨r,cs,dg⟩=>.cm ⟨r,(x=false)::cs,dg⟩
    |.stop w x=>.stop w x
   |_=>.stop "if" (some x)
  |_=>.stop "if what" none
 |.block id b,st,ad=>match kG P need rd call b st ad with
  |.cm ⟨(.exit i,bq),cs,dg⟩=>match Nat.beq i id with
   |true=>.cm ⟨(.nrm,bq),cs,dg⟩
   |false=>.cm ⟨(.exit i,bq),cs,dg⟩
  |x=>x
 |.loop b,st,ad=>match ad with
  |.loop e bq::ad=>.cm ⟨(e,bq),[dy P need rd call (.loop b) st e bq],ad⟩
  |_=>.stop "loop" none
 |.rangeFunc f ps as b2,st,ad=>match ad with
  |.loop e bq::ad=>.cm ⟨(e,bq),[dy P need rd call (.rangeFunc f ps as b2) st e bq],ad⟩
  |_=>.stop "range over a function" none
 |.goto _,_,_=>.stop "goto" none
 |.refuse _,_,_=>.stop "refuse" none
theorem BZ:∀(p q:ho),p.num=q.num->p=q
 |.here,.here,_=>rfl
 |.here,.l q,h=>by simp only[ho.num] at h;omega
 |.here,.r q,h=>by simp only[ho.num] at h;omega
 |.l p,.here,h=>by simp only[ho.num] at h;omega
 |.r p,.here,h=>by simp only[ho.num] at h;omega
 |.l p,.l q,h=>by rw[BZ p q (by simp only[ho.num] at h;omega)]
 |.r p,.r q,h=>by rw[BZ p q (by simp only[ho.num] at h;omega)]
 |.l p,.r q,h=>by simp only[ho.num] at h;omega
 |.r p,.l q,h=>by simp only[ho.num] at h;omega
theorem GB(p:ho):fA p.num=p:=BZ _ _ (xK _)
theorem rY(t u:Nat):(t=u/\Nat.beq t u=true)\/(t≠u/\Nat.beq t u=false):=by
 by_cases h:t=u
 · exact .inl ⟨h,by simp[h]⟩
 · refine .inr ⟨h,?_⟩
   cases ae:Nat.beq t u with
   |false=>rfl
   |true=>exact absurd (Nat.eq_of_beq_eq_true ae) h
theorem B0(t u:Nat):∀Γ:Env,c4 t (del u Γ)=if t=u then none else c4 t Γ
 |[]=>by simp[del,c4]
 |(x,v)::l=>by
  have bc:=B0 t u l
  simp only[del]
  rcases rY u x with⟨e,ae⟩|⟨e,ae⟩
  · rw[ae];simp only[bc,c4]
    subst e
    rcases rY t u with⟨au,ev⟩|⟨au,ev⟩
    · rw[if_pos au,if_pos au]
    · rw[if_neg au,if_neg au,ev]
  · rw[ae];simp only[c4,bc]
    rcases rY t x with⟨au,ev⟩|⟨au,ev⟩
    · rw[ev];simp only[]
      rw[if_neg]
      intro h;exact e (by rw[<-h,au])
    · rw[ev]
theorem Oe(t u:Nat)(v:I)(Γ:Env):c4 t (put u v Γ)=if t=u then some v else c4 t Γ:=by
 simp only[put,c4]
 rcases rY t u with⟨e,ae⟩|⟨e,ae⟩
 · rw[ae,if_pos e]
 · rw[ae,if_neg e,B0,if_neg e]
theorem Mod.put{r:aN}{Γ:Env}(h:Mod r Γ)(t:Nat)(v:I):Mod (r.set (fA t) v) (put t v Γ):=by
 intro u x U
 rw[Oe] at U
 rw[aN.cL]
 by_cases e:u=t
 · rw[if_pos e] at U⊢;cases U;rfl
 · rw[if_neg e] at U⊢;exact h u x U
theorem Mod.del{r:aN}{Γ:Env}(h:Mod r Γ)(t:Nat)(v:I):Mod (r.set (fA t) v) (del t Γ):=by
 intro u x U
 rw[B0] at U
 rw[aN.cL]
 by_cases e:u=t
 · rw[if_pos e] at U;cases U
 · rw[if_neg e] at U⊢;exact h u x U
theorem B1(Γ:Env)(t:Nat)(v:I):∀l,c4 t (lZ Γ l)=some v->c4 t Γ=some v
 |[],h=>by simp[lZ,c4] at h
 |u::l,h=>by
  simp only[lZ] at h
  cases hu:c4 u Γ with
  |none=>rw[hu] at h;exact B1 Γ t v l h
  |some x=>
   rw[hu] at h
   simp only[c4] at h
   rcases rY t u with⟨e,ae⟩|⟨e,ae⟩
   · rw[ae] at h;rw[e,hu];exact h
   · rw[ae] at h;exact B1 Γ t v l h
theorem Mod.lZ{r:aN}{Γ:Env}(h:Mod r Γ)(l:List Nat):Mod r (lZ Γ l):=λt v bk=>h t v (B1 Γ t v l bk)
theorem qq{m:Nat}{env:List I}{r:aN}{Γ:Env}(hm:Mod r Γ){a:Acc}{v:I}(h:kF m env Γ a=some v):cv m env r a=v:=by
 cases a with
 |env j=>simp only[kF] at h;simp only[cv,h,Option.getD_some]
 |jo p=>simp only[kF] at h;simp only[cv];rw[<-GB p];exact hm _ _ h
 |val x=>cases h;rfl
section
variable {P:Program}
theorem qs{o:Oper}{g:Operand->I}{h:J}{v:I}(ab:j_ P o g h v):b6 P o g h=.val v h:=by
 obtain⟨dst,op,type,pos,after,guard⟩:=o
 cases op<;>simp only[j_] at ab<;>(try exact ab.elim)
 case load t a=>
  split at ab
  · rename_i b off n an aJ aC
    simp only[b6,an,aJ,ab,fb]
  · rename_i b off n an aJ aC
    split at ab
    · simp only[b6,an,aJ,aC,ab]
    · exact ab.elim
  · exact ab.elim
 case binOp op t x y yt=>
  split at ab
  · rename_i k a gA b U aP
    split at ab
    · simp only[b6,U,aP,ec,ab,fb]
    · simp only[b6,U,aP,ec,ab,fb]
    · rename_i fH hx
      split at ab
      · rename_i hk
        have eP:k=gA:=of_decide_eq_true hk
        simp only[b6,U,aP,ec]
        cases op<;>first|exact absurd rfl fH|exact absurd rfl hx|(simp only[if_pos eP,ab,fb])
      · exact ab.elim
  · rename_i a b U aP
    simp only[b6,U,aP,ec,ab,fb]
  · simp only[b6,ab,fb]
 case unOp op t x=>
  split at ab
  · rename_i k n U;simp only[b6,U,ab]
  · rename_i k n U;simp only[b6,U,ab,fb]
  · exact ab.elim
 case slice t x bB ag mx=>simp only[b6,ab,fb]
 case index t x i=>
  split at ab
  · rename_i s n hu U ag
    unfold hb at ab
    simp only[b6,hu,U,ag]
    split at ab
    · rename_i hI ae;cases ab;simp only[ae]
    · cases ab
  · rename_i m e cs n hu U ag
    split at ab
    · rename_i sz bp
      simp only[b6,hu,U,ag,bp,if_pos ab.1,ab.2,fb]
    · exact ab.elim
  · exact ab.elim
 case indexAddr t x i=>
  split at ab
  · rename_i m e b off n hu U ag
    split at ab
    · rename_i sz bp
      simp only[b6,hu,U,ag,bp,if_pos ab.1,ab.2]
    · exact ab.elim
  · rename_i e b off m c n hu U ag
    split at ab
    · rename_i sz bp
      simp only[b6,hu,U,ag,bp,if_pos ab.1,ab.2]
    · exact ab.elim
  · exact ab.elim
 case lookup t x i ok=>simp only[b6,ab,fb]
 case entry it=>simp only[b6,ab,fb]
 case convert src dst x=>simp only[b6,ab]
 case call c=>
  split at ab
  · rename_i x t ib gu bk;simp only[b6,ib,gu,hR,bk,ab,fb]
  · rename_i x t ib gu bk;simp only[b6,ib,gu,hR,bk,ab,fb]
  · rename_i x l _ ib gu;simp only[b6,ib,gu,hR,ab,fb]
  · rename_i x l _ ib gu;simp only[b6,ib,gu,hR,ab,fb]
  · rename_i x t ib gu bk
    simp only[b6,ib,gu]
    simp only[hR,bk] at ab⊢
    exact ab
  · exact ab.elim
theorem GC:∀(n:Nat) (cs bC:List I),putCells n [I.bad] cs=some bC->False
 |0,[],_,h=>by simp[putCells] at h
 |0,_::_,_,h=>by simp[putCells,I.ca] at h
 |_+1,[],_,h=>by simp[putCells] at h
 |n+1,c::cs,bC,h=>by
  simp only[putCells] at h
  split at h
  · rename_i r aj;exact GC n cs r aj
  · cases h
theorem Of{h ah:J}{b off:Nat}(ad:aS.storeCells h b off (I.cells .bad)=some ah):False:=by
 unfold aS.storeCells at ad
 split at ad
 · split at ad
   · split at ad
     · rename_i a8;exact GC _ _ _ a8
     · cases ad
   · cases ad
 · cases ad
theorem B2{o:Oper}{g:Operand->I}{h ah:J}{v:I}(ab:tM P o g h v ah):b6 P o g h=.val v ah:=by
 obtain⟨dst,op,type,pos,after,guard⟩:=o
 cases op<;>simp only[tM] at ab<;>(try exact ab.elim)
 case store t a x=>
  split at ab
  · rename_i b off an
    obtain⟨h1,aa,rfl⟩:=ab
    simp only[b6,an]
    rw[h1]
    have ae:g x≠ .bad:=λae=>by
     rw[ae] at aa
     exact Of aa
    cases qn:g x<;>first|exact absurd qn ae|(rw[qn] at aa;simp[aa,oM])
  · exact ab.elim
 case convert src dst x=>simp only[b6,ab]
 case mapUpdate t m k x=>obtain⟨h1,rfl⟩:=ab;simp only[b6,h1,oM]
 case insert t m k x=>obtain⟨h1,rfl⟩:=ab;simp only[b6,h1,oM]
 case mapEntry t m k=>simp only[b6,ab,kq]
 case entryStore t m s x=>obtain⟨h1,rfl⟩:=ab;simp only[b6,h1,oM]
 case next it isStr=>simp only[b6,ab,kq]
 case range t x=>
  split at ab
  · rename_i cI fq hu
    unfold yL at ab
    split at ab
    · rename_i m an
      split at ab
      · rename_i es c hm
        cases ab
        simp only[b6,hu,an,hm]
      · cases ab
    · cases ab
  · exact ab.elim
 case makeSlice t l c=>
  unfold Gu at ab
  simp only[b6]
  split at ab
  · rename_i e eG c' hu ar vS
    split at ab
    · rename_i i z ag aW
      simp only[hu,ar,vS,ag,aW]
      split at ab
      · rename_i jI
        rw[if_pos jI]
        split at ab
        · rename_i b af aC;cases ab;simp only[aC]
        · cases ab
      · cases ab
    · cases ab
  · cases ab
 case call c=>
  split at ab
  · rename_i x y t ib gu bk;simp only[b6,ib,gu,hR,bk,ab,kq]
  · rename_i x y t ib gu bk;simp only[b6,ib,gu,hR,bk,ab,kq]
  · rename_i x t ib gu bk;simp only[b6,ib,gu,hR,bk,ab,kq]
  · rename_i x y t ib gu bk;simp only[b6,ib,gu,hR,bk,ab,kq]
  · rename_i x y t ib gu bk;simp only[b6,ib,gu,hR,bk,ab,kq]
  · exact ab.elim
variable {inR:Bool} {call:cJ}
theorem GD{pos:String}{f:cR}{args:List I}{d:List bw}{q:az}{h:J}{ad:List Hint}{y:gv l0}(U:yM call pos f args d q h ad=.cm y)(ab:cS y.cs):uW d q (call f args h)=y.res.res:=by
 unfold yM at U
 split at U
 · cases U;rw[ab.1];rfl
 · cases U;rw[ab.1];rfl
 · cases U
theorem Og{o:Oper}{g:Operand->I}{d:List bw}{q:az}{h:J}{ad:List Hint}{y:gv l0}(U:BT P inR call o g d q h ad=.cm y)(ab:cS y.cs):
  dk P inR call none o g d q h=y.res.res:=by
 unfold BT at U
 unfold dk
 simp only[dr]
 split at U
 · cases U
   rw[qs ab.1];rfl
 · split at U
   · rename_i e x dg bh
     cases U
     have h1:(g x).cells.all I.ca=true:=ab.1.h
     have he:o.op=.box e x:=by
      unfold Gv at bh
      split at bh
      · split at bh
        · rename_i he;cases bh;exact he
        · cases bh
      · cases bh
     have:b6 P o g h=.val (.ptr h.n 0) (h.push (.cells (g x).cells e .own 0 0)):=by
      unfold b6;rw[he];simp only[newRow,h1]
     rw[this];rfl
   · split at U
     · split at U
       · rename_i dK;cases U;rw[dK];rfl
       · rename_i dK;cases U;rw[dK];rfl
       · rename_i dK;rw[dK];exact GD U ab
       · rename_i dK;rw[dK];exact GD U ab
       · rename_i z dK
         split at U
         · cases U
         · cases U;rw[dK];rfl
       · rename_i dK
         split at U
         · cases U
         · split at U
           · cases U;rw[dK];rfl
           · cases U;rw[dK];rfl
           · cases U;rw[dK];rfl
       · cases U
     · split at U
       · cases U
         rw[qs ab.1];rfl
       · cases U
     · split at U
       · cases U
         rw[B2 ab.1];rfl
       · cases U
theorem GF{o:Oper}{g:Operand->I}{d:List bw}{q:az}{h:J}{ad:List Hint}{y:gv l0}(U:yN P inR call o g d q h ad=.cm y)(ab:cS y.cs):
  dk P inR call none o g d q h=y.res.res:=by
 unfold yN at U
 cases a8:BU o g d q h ad with
 |none=>rw[a8] at U;exact Og U ab
 |some z=>
  rw[a8] at U
  simp only at U
  subst U
  unfold BU at a8
  split at a8
  · rename_i e7 a b dW
    split at a8
    · rename_i hI an
      split at a8
      · cases a8
        obtain⟨rfl,_⟩:=ab
        unfold dk b6
        simp[dr,dW,an,l0.res]
      · cases a8
        obtain⟨rfl,_⟩:=ab
        unfold dk b6
        simp[dr,dW,an,l0.res]
      · cases a8
    · cases a8
  · cases a8
theorem tQ{gd:Option (I×Bool)}(hw:dr gd=some true)(o:Oper)(g:Operand->I)(d:List bw)(q:az)(h:J):dk P inR call gd o g d q h=dk P inR call none o g d q h:=by
 unfold dk
 rw[hw]
 rfl
theorem wg{gd:Option (I×Bool)}(hw:dr gd=some false)(o:Oper)(g:Operand->I)(d:List bw)(q:az)(h:J):dk P inR call gd o g d q h=.ok (.aF []) d q h:=by
 unfold dk
 simp only[hw]
theorem wh{gd:Option (I×Bool)}{o:Oper}{g:Operand->I}{d:List bw}{q:az}{h:J}{ad:List Hint}{y:gv l0}(U:tN P inR call gd o g d q h ad=.cm y)(ab:cS y.cs):
  dk P inR call gd o g d q h=y.res.res:=by
 unfold tN at U
 split at U
 · exact GF U ab
 · rename_i l1 b
   split at U
   · rename_i c fH
     split at U
     · rename_i j3
       split at U
       · rename_i s jc hx dC
         cases U
         obtain⟨rfl,wi⟩:=ab
         rw[tQ (by simp only[dr];rw[j3])]
         exact(GF dC wi:)
       · cases U
     · rename_i j3
       cases U
       obtain⟨rfl,_⟩:=ab
       rw[wg (by simp only[dr];rw[j3])];rfl
   · cases U
 · cases U
   rw[wg rfl];rfl
 · cases U
variable {need:Nat}
theorem yV{m:Nat}{env:List I}{r:aN}{Γ:Env}(hm:Mod r Γ){loc:List (Nat×Acc)}{o:Oper}(hk:tO P need m env Γ loc o=true):∀x∈o.op.operands,cv m env r (bX P need loc x)=kb P need m env Γ loc x:=by
 intro x U
 unfold tO at hk
 rw[List.all_eq_true] at hk
 have:=hk x (by simpa using U)
 obtain⟨v,aM⟩:=Option.isSome_iff_exists.1 this
 unfold kb
 rw[aM,qq hm aM];rfl
theorem GG{r:aN}{Γ:Env}(hm:Mod r Γ):∀(l:List Step) (env:List I) (d:List bw) (q:az) (h:J) (ad:List Hint) (y:gv lH),yO P need inR call Γ l env d q h ad=.cm y->cS y.cs->
  hr P need inR call r l env d q h=y.res
 |[],env,d,q,h,ad,y,U,ab=>by cases U;rfl
 |s::rest,env,d,q,h,ad,y,U,ab=>by
  simp only[yO] at U
  split at U
  · cases U
  · rename_i hk
    split at U
    · cases U
    · rename_i gd eb
      have key:∀z,dk P inR call gd s.o (kb P need s.m env Γ s.loc) d q h=z->hr P need inR call r (s::rest) env d q h=match z with
        |.ok v d' aX ah=>hr P need inR call r rest (v::env) d' aX ah
        |.bu v d' aX ah=>.bu v d' aX ah
        |.fail w=>.fail w:=λz aW=>by
       simp only[hr]
       rw[<-aW,<-rQ (yV hm hk)]
       unfold Gw at eb
       cases yH:s.guard with
       |none=>rw[yH] at eb;cases eb;rfl
       |some p=>
        obtain⟨a,b⟩:=p
        rw[yH] at eb
        simp only at eb
        cases aM:kF s.m env Γ a with
        |none=>rw[aM] at eb;cases eb
        |some v=>rw[aM] at eb;cases eb;simp only[qq hm aM];rfl
      split at U
      · rename_i v d' aX ah jc fH eW
        split at U
        · rename_i z wj hx j2
          cases U
          obtain⟨c1,c2⟩:=cS.append ab
          have h1:=wh eW c1
          have ft:dk P inR call gd s.o (kb P need s.m env Γ s.loc) d q h=.ok v d' aX ah:=h1
          rw[key _ ft]
          exact(GG hm rest (v::env) d' aX ah fH _ j2 c2:)
        · cases U
      · rename_i v d' aX ah jc fH eW
        cases U
        have h1:=wh eW ab
        have ft:dk P inR call gd s.o (kb P need s.m env Γ s.loc) d q h=.bu v d' aX ah:=h1
        rw[key _ ft]
      · cases U
theorem wk{m:Nat}{env:List I}{gB:aN}{fI:Env}(hm:Mod gB fI):∀(l:List (Nat×Acc)) (r:aN) (Γ:Env),Mod r Γ->Mod (mX need m env gB l r) (oa need m env fI l Γ)
 |[],r,Γ,h=>h
 |(t,a)::l,r,Γ,h=>by
  have bc:=wk (m:=m) (env:=env) hm l r Γ h
  simp only[mX,oa]
  cases Nat.testBit need t with
  |false=>exact bc
  |true=>
   simp only
   cases an:kF m env fI a with
   |some v=>simp only;rw[qq hm an];exact bc.put t v
   |none=>simp only;exact bc.del t _
theorem B3:∀(l:List (Nat×Acc)) (r:aN) (Γ:Env),Mod r Γ->Mod (s9 l r) (yP l Γ)
 |[],r,Γ,h=>h
 |(t,a)::l,r,Γ,h=>(B3 l r Γ h).del t _
mutual
theorem rZ:∀v:I,v.sound=true->I.beq v v=true
 |.bool b,_=>by simp[I.beq]
 |.int k n,_=>by simp[I.beq,dP]
 |.str s,_=>by simp[I.beq,ha]
 |.c_,_=>rfl
 |.ptr a i,_=>by simp[I.beq]
 |.bn,_=>rfl
 |.slice a i n c,_=>by cases c<;>simp[I.beq,cb.beq]
 |.fy,_=>rfl
 |.map a,_=>by simp[I.beq]
 |.h5,_=>rfl
 |.fn f a b,h=>by
  simp only[I.sound,Bool.and_eq_true] at h
  simp only[I.beq,wm a h.1,wm b h.2,Bool.and_true]
  simp
 |.b7 a,_=>by simp[I.beq]
 |.ej,_=>rfl
 |.iface t v,h=>by
  simp only[I.sound] at h
  simp only[I.beq,rZ v h,Bool.and_true]
  simp
 |.agg l,h=>by
  simp only[I.sound] at h
  simp only[I.beq,wm l h]
 |.aF l,h=>by
  simp only[I.sound] at h
  simp only[I.beq,wm l h]
 |.bad,h=>by simp[I.sound] at h
theorem wm:∀l:List I,oc l=true->I.mg l l=true
 |[],_=>rfl
 |a::l,h=>by
  simp only[oc,Bool.and_eq_true] at h
  simp only[I.mg,rZ a h.1,wm l h.2,Bool.and_true]
end
theorem B4{ops:Array Oper}{r:aN}{Γ:Env}(hm:Mod r Γ){n:Nat}{env:List I}{s:DStep}{gd:Option (I×Bool)}(h:wc P need ops n env Γ s=some gd):eO P need ops r n env s=gd:=by
 unfold wc at h
 unfold eO
 split at h
 · rename_i an;rw[an];cases h;rfl
 · rename_i a b an
   rw[an]
   split at h
   · rename_i v aM
     cases h
     simp only[qq hm aM]
   · cases h
def Oh(P:Program)(need:Nat)(inR:Bool)(call:cJ)(ops:Array Oper)(r:aN)(cf:Nat)(s:DStep)(st bq:je):Prop:=
 ∀rest,fB P need inR call ops r cf (s::rest) st.env st.d st.q st.h st.a7=fB P need inR call ops r cf rest bq.env bq.d bq.q bq.h bq.a7
theorem GH{ops:Array Oper}{r:aN}{Γ:Env}(hm:Mod r Γ){cf:Nat}{s:DStep}{st:je}{ad:List Hint}{y:gv je}(U:yQ P need inR call ops Γ cf s st ad=.cm y)(ab:cS y.cs):Oh P need inR call ops r cf s st y.res:=by
 intro rest
 unfold yQ at U
 split at U
 · cases U
 · rename_i hk
   have an:=yV hm hk
   split at U
   · cases U
   · rename_i gd eb
     have ak:=B4 hm eb
     split at U
     · rename_i gw
       have aJ:=vJ (P:=P) (o:=s.o.op) (b:=cf+s.i) an
       simp only[fB,gw,ak]
       rw[aJ]
       unfold Gz at U
       split at U
       · split at U
         · cases U
           have eH:=Gy ab.1
           simp only[dr,eH]
         · split at U
           · rename_i v o eH
             cases U
             simp only[dr,eH]
           · cases U
       · split at U
         · rename_i x c _ gH fH
           split at U
           · rename_i B5
             split at U
             · rename_i v o eH
               cases U
               obtain⟨rfl,_⟩:=ab
               simp only[dr,B5,eH]
             · cases U
           · rename_i B5
             cases U
             obtain⟨rfl,_⟩:=ab
             simp only[dr,B5]
         · cases U
       · cases U
         simp only[dr]
       · cases U
     · rename_i gw
       simp only[fB,gw,ak]
       rw[rQ an]
       split at U
       · rename_i v d' aX ah jc fH eW
         cases U
         have h1:=wh eW ab
         have ft:dk P inR call gd s.o (kb P need s.i st.env Γ s.loc) st.d st.q st.h=.ok v d' aX ah:=h1
         rw[ft]
       · cases U
       · cases U
     · rename_i gw
       split at U
       · cases U
       · rename_i kD
         simp only[fB,gw,ak]
         rw[rQ an]
         split at U
         · rename_i v d' aX ah jc fH eW
           cases U
           have h1:=wh eW ab
           have ft:dk P inR call gd s.o (kb P need s.i st.env Γ s.loc) st.d st.q st.h=.ok v d' aX ah:=h1
           rw[ft]
           cases bW:st.a7 with
           |nil=>rfl
           |cons a l=>
            obtain⟨e,m,af⟩:=a
            rw[bW] at kD
            simp only[rX] at kD
            simp only[kD]
         · cases U
         · cases U
theorem GI{ops:Array Oper}{r:aN}{Γ:Env}(hm:Mod r Γ){cf:Nat}:∀(l:List DStep) (st:je) (ad:List Hint) (y:gv je),yR P need inR call ops Γ cf l st ad=.cm y->cS y.cs->
  fB P need inR call ops r cf l st.env st.d st.q st.h st.a7=.ok y.res.env y.res.d y.res.q y.res.h y.res.a7
 |[],st,ad,y,U,ab=>by cases U;rfl
 |s::rest,st,ad,y,U,ab=>by
  simp only[yR] at U
  split at U
  · rename_i st1 jc fH h1
    split at U
    · rename_i ic wj hx aa
      cases U
      obtain⟨c1,c2⟩:=cS.append ab
      rw[GH hm h1 c1 rest]
      exact(GI hm rest st1 fH ⟨ic,wj,hx⟩ aa c2:)
    · cases U
  · cases U
theorem Oi{o:Oper}{g:Operand->I}{h:J}{v:I}(ab:cS (we P o g h v)):∃v' ah,b6 P o g h=.val v' ah/\I.beq v' v=true:=by
 unfold we at ab
 split at ab
 · rename_i x a b a8
   obtain⟨h1,aa,_⟩:=ab
   refine⟨v,h,?_,rZ v h1⟩
   unfold GA at a8
   split at a8
   · rename_i c b_ ku aQ
     split at a8
     · rename_i Bu yW
       cases a8
       cases x<;>simp only[b6,aQ,yW]<;>rw[<-aa]<;>rfl
     · cases a8
   · cases a8
 split at ab
 · exact⟨v,h,qs ab.2.1,rZ v ab.1⟩
 split at ab
 · exact⟨v,h,qs ab.2.1,rZ v ab.1⟩
 · split at ab
   · rename_i v' ah he
     obtain⟨h1,rfl,_⟩:=ab
     exact⟨v',ah,he,rZ v' h1⟩
   · exact ab.1.elim
theorem GJ{ops:Array Oper}{r:aN}{Γ:Env}(hm:Mod r Γ){n:Nat}{env:List I}{s:DStep}{v:I}{h:J}(ab:cS (BW P need ops Γ n env s v h)):gm P need ops r n env s v h=true:=by
 unfold BW at ab
 unfold gm
 split at ab
 · rename_i gd hk eb
   rw[B4 hm eb]
   have an:=yV hm hk
   have key:cS (we P s.o (kb P need n env Γ s.loc) h v)->(match b6 P s.o (λx=>cv n env r (bX P need s.loc x)) h with
     |.val v' _=>I.beq v' v
     |_=>false)=true:=λar=>by
    rw[vI s.o h an]
    obtain⟨v',ah,av,au⟩:=Oi ar
    rw[av];exact au
   split at ab
   · simp only[dr];exact key ab
   · rename_i x b
     simp only[dr]
     obtain⟨ab,_⟩:=ab
     unfold lookW at ab
     split at ab
     · rw[ab]
     · cases A3:(x==b) with
       |false=>rfl
       |true=>exact key ab
   · rfl
   · exact ab.1.elim
 · exact ab.1.elim
theorem yX{ops:Array Oper}{r:aN}{n:Nat}{env:List I}{s:DStep}{v:I}(nx:Option Nat)(h:J)(a7:mE):j0 P need ops r n env s v nx h a7=
  ((match o8 s nx a7 with|true=>true|false=>gm P need ops r n env s v h||gm P need ops r n env s v (lI P need ops r n env s nx h))&&(match a7 with|[]=>true|(e,_,ah)::rest=>j0 P need ops r n env s v (some e) ah rest)):=by
 cases a7<;>(rw[j0.eq_def];rfl)
theorem B6{ops:Array Oper}{r:aN}{Γ:Env}(hm:Mod r Γ){n:Nat}{env:List I}{s:DStep}{v:I}:∀(a7:mE) (nx:Option Nat) (h:J),cS (tP P need ops Γ n env s v nx h a7)->j0 P need ops r n env s v nx h a7=true
 |[],nx,h,ab=>by
  rw[yX]
  unfold tP at ab
  obtain⟨c1,_⟩:=cS.append ab
  cases ae:o8 s nx [] with
  |true=>rfl
  |false=>rw[ae] at c1;simp only[Bool.and_true];rw[GJ hm c1,Bool.true_or]
 |(e,m,ah)::rest,nx,h,ab=>by
  rw[yX]
  unfold tP at ab
  obtain⟨c1,c2⟩:=cS.append ab
  have bc:=B6 hm rest (some e) ah c2
  cases ae:o8 s nx ((e,m,ah)::rest) with
  |true=>simp only[Bool.true_and];exact bc
  |false=>
   rw[ae] at c1
   simp only
   rw[GJ hm c1,Bool.true_or,Bool.true_and];exact bc
theorem GK{ops:Array Oper}{r:aN}{Γ:Env}(hm:Mod r Γ){n:Nat}{env:List I}{h:J}{a7:mE}:∀(l:List DStep),cS (yT P need ops Γ n env h a7 l)->kr P need ops r n env none h a7 l=true
 |[],_=>rfl
 |s::rest,ab=>by
  simp only[yT] at ab
  obtain⟨c1,c2⟩:=cS.append ab
  simp only[kr]
  rw[GK hm rest c2,Bool.and_true]
  cases h1:Nat.blt s.i n with
  |false=>rfl
  |true=>
   rw[h1] at c1
   cases aa:kindOf P s.o.op with
   |pure=>rw[aa] at c1;exact B6 hm a7 none h c1
   |alloc=>rfl
   |dA=>rfl
theorem Oj{ops:Array Oper}{r:aN}{Γ:Env}(hm:Mod r Γ){cf:Nat}{s:DStep}{rest:List DStep}{st:je}{ad:List Hint}{y:gv (I×je)}(U:BV P need inR call ops Γ s rest st ad=.cm y)(ab:cS y.cs):
  fB P need inR call ops r cf (s::rest) st.env st.d st.q st.h st.a7=.bu y.res.1 y.res.2.env y.res.2.d y.res.2.q y.res.2.h y.res.2.a7:=by
 unfold BV at U
 split at U
 · cases U
 · rename_i hk
   have an:=yV hm hk
   split at U
   · cases U
   · rename_i gd eb
     have ak:=B4 hm eb
     split at U
     · rename_i gw
       split at U
       · cases U
       · rename_i kD
         simp only[fB,gw,ak]
         rw[rQ an]
         split at U
         · rename_i v d' aX ah jc fH eW
           split at U
           · rename_i dD
             cases U
             have h1:=wh eW ab
             have ft:dk P inR call gd s.o (kb P need s.i st.env Γ s.loc) st.d st.q st.h=.bu v d' aX ah:=h1
             rw[ft]
             cases bW:st.a7 with
             |nil=>simp only[dD]
             |cons a l=>
              obtain⟨e,m,af⟩:=a
              rw[bW] at kD
              simp only[rX] at kD
              simp only[kD,dD]
           · cases U
         · cases U
     · cases U
theorem GL{ops:Array Oper}{r:aN}{Γ:Env}(hm:Mod r Γ){cf:Nat}:∀(l:List DStep) (st:je) (ad:List Hint) (y:gv (I×je)),yS P need inR call ops Γ cf l st ad=.cm y->cS y.cs->
  fB P need inR call ops r cf l st.env st.d st.q st.h st.a7=.bu y.res.1 y.res.2.env y.res.2.d y.res.2.q y.res.2.h y.res.2.a7
 |[],st,ad,y,U,ab=>by cases U
 |s::rest,st,ad,y,U,ab=>by
  simp only[yS] at U
  split at U
  · rename_i gH h1
    cases U
    exact Oj hm h1 ab
  · split at U
    · rename_i st1 jc fH h1
      split at U
      · rename_i ic wj hx aa
        cases U
        obtain⟨c1,c2⟩:=cS.append ab
        rw[GH hm h1 c1 rest]
        exact(GL hm rest st1 fH ⟨ic,wj,hx⟩ aa c2:)
      · cases U
    · cases U
theorem GM{ops:Array Oper}{r:aN}{Γ:Env}(hm:Mod r Γ){n:Nat}{env:List I}{last:Option Nat}{h:J}{a7:mE}:∀(l:List DStep),cS (yU P need ops Γ n env last h a7 l)->kr P need ops r n env last h a7 l=true
 |[],_=>rfl
 |s::rest,ab=>by
  simp only[yU] at ab
  obtain⟨c1,c2⟩:=cS.append ab
  simp only[kr]
  rw[GM hm rest c2,Bool.and_true]
  cases h1:Nat.blt s.i n with
  |false=>rfl
  |true=>
   rw[h1] at c1
   cases aa:kindOf P s.o.op with
   |pure=>rw[aa] at c1;exact B6 hm a7 last h c1
   |alloc=>rfl
   |dA=>rfl
theorem Ol{id:Nat}{ops:Array Oper}{rd:Option Nat}{st:aB}{ad:List Hint}{y:gv (aU×aB)}(U:BX P need rd.isSome call ops st ad=.cm y)(ab:cS y.cs):dy P need rd call (.region id ops true) st y.res.1 y.res.2:=by
 unfold BX at U
 split at U
 · rename_i v env d q h e m aA a7 jc fH ak
   cases U
   obtain⟨c1,c2⟩:=cS.append ab
   intro r hm
   have h1:=GL hm _ _ _ _ ak c1
   have aa:=GM hm _ c2
   simp only at h1
   refine⟨_,?_,B3 _ _ _ hm⟩
   have ft:fB P need rd.isSome call ops r st.h.n (ed ops.toList 0 [] []) [] st.d st.q ⟨st.h.t,st.h.n+ops.size⟩ []=.bu v env d q h ((e,m,aA)::a7):=h1
   simp only[cX,q5,ft,aa,lJ]
 · cases U
 · cases U
theorem Om{id:Nat}{ops:Array Oper}{rd:Option Nat}{st:aB}{ad:List Hint}{y:gv (aU×aB)}(U:BY P need rd.isSome call ops st ad=.cm y)(ab:cS y.cs):dy P need rd call (.region id ops true) st y.res.1 y.res.2:=by
 unfold BY at U
 split at U
 · rename_i env d q h a7 jc fH ak
   cases U
   obtain⟨c1,c2⟩:=cS.append ab
   intro r hm
   have h1:=GI hm _ _ _ _ ak c1
   have aa:=GK hm _ c2
   simp only at h1
   refine⟨_,?_,wk hm _ _ _ hm⟩
   have ft:fB P need rd.isSome call ops r st.h.n (ed ops.toList 0 [] []) [] st.d st.q ⟨st.h.t,st.h.n+ops.size⟩ []=.ok env d q h a7:=h1
   simp only[cX,q5,ft,aa,lJ]
 · exact Ol U ab
variable {rd:Option Nat}
theorem od:∀(c:Code) (st:aB) (ad:List Hint) (y:gv (aU×aB)),kG P need rd call c st ad=.cm y->cS y.cs->dy P need rd call c st y.res.1 y.res.2
 |.skip,st,ad,y,U,ab=>by cases U;exactλr aj=>⟨r,rfl,aj⟩
 |.label _,st,ad,y,U,ab=>by cases U;exactλr aj=>⟨r,rfl,aj⟩
 |.exit id,st,ad,y,U,ab=>by cases U;exactλr aj=>⟨r,rfl,aj⟩
 |.ret,st,ad,y,U,ab=>by cases U;exactλr aj=>⟨r,rfl,aj⟩
 |.scope b,st,ad,y,U,ab=>od b st ad y U ab
 |.region id ops draw,st,ad,y,U,ab=>by
  simp only[kG] at U
  cases draw with
  |true=>exact Om U ab
  |false=>
   simp only at U
   split at U
   · rename_i x jc fH bW
     split at U
     · rename_i ba B7
       cases U
       intro r aj
       have h1:=GG aj _ _ _ _ _ _ _ bW ab
       simp only at h1
       simp only[cX,h1]
       cases x with
       |ok env d q h=>cases B7;exact⟨_,rfl,wk aj _ _ _ aj⟩
       |bu v d q h=>cases B7;exact⟨_,rfl,B3 _ _ _ aj⟩
       |fail w=>cases B7
     · cases U
   · cases U
 |.seq a b,st,ad,y,U,ab=>by
  simp only[kG] at U
  split at U
  · rename_i st1 jc fH aJ
    split at U
    · rename_i bH wj hx ae
      cases U
      obtain⟨c1,c2⟩:=cS.append ab
      intro r aj
      obtain⟨ba,h1,m1⟩:=od a st ad _ aJ c1 r aj
      obtain⟨bH,aa,m2⟩:=od b st1 fH _ ae c2 ba m1
      exact⟨bH,by simp only at h1 aa;simp only[cX,h1,oN,aa],m2⟩
    · cases U
  · rename_i b9
    intro r aj
    obtain⟨ba,h1,m1⟩:=od a st ad y U ab r aj
    refine⟨ba,?_,m1⟩
    simp only[cX,h1]
    refine rC (λcw=>?_)
    obtain⟨⟨av,st1⟩,jc,fH⟩:=y
    simp only at cw
    subst cw
    exact b9 _ _ _ U
 |.cond c a b,st,ad,y,U,ab=>by
  simp only[kG] at U
  split at U
  · rename_i x an
    split at U
    · split at U
      · rename_i ba jc fH aJ
        cases U
        obtain⟨rfl,c1⟩:=ab
        intro r aj
        obtain⟨ba,h1,m1⟩:=od a st _ _ aJ c1 r aj
        exact⟨ba,by simp only at h1;simp only[cX,qq aj an,h1],m1⟩
      · cases U
    · split at U
      · rename_i ba jc fH aJ
        cases U
        obtain⟨rfl,c1⟩:=ab
        intro r aj
        obtain⟨ba,h1,m1⟩:=od b st _ _ aJ c1 r aj
        exact⟨ba,by simp only at h1;simp only[cX,qq aj an,h1],m1⟩
      · cases U
    · cases U
  · cases U
 |.block id b,st,ad,y,U,ab=>by
  simp only[kG] at U
  split at U
  · rename_i i st1 jc fH ae
    split at U
    · rename_i ag
      cases U
      obtain rfl:=Nat.eq_of_beq_eq_true ag
      intro r aj
      obtain⟨ba,h1,m1⟩:=od b st ad _ ae ab r aj
      exact⟨ba,by simp only at h1;simp only[cX,h1,if_true],m1⟩
    · rename_i ag
      cases U
      intro r aj
      obtain⟨ba,h1,m1⟩:=od b st ad _ ae ab r aj
      have b9:¬i=id:=by intro cw;subst cw;simp at ag
      exact⟨ba,by simp only at h1;simp only[cX,h1,if_neg b9],m1⟩
  · rename_i b9
    intro r aj
    obtain⟨ba,h1,m1⟩:=od b st ad y U ab r aj
    refine⟨ba,?_,m1⟩
    obtain⟨⟨av,st1⟩,jc,fH⟩:=y
    simp only at h1
    simp only[cX,h1]
    cases av<;>first|rfl|exact absurd U (b9 _ _ _ _)
 |.loop b,st,ad,y,U,ab=>by
  simp only[kG] at U
  split at U
  · cases U;exact ab.1
  · cases U
 |.rangeFunc f ps as b2,st,ad,y,U,ab=>by
  simp only[kG] at U
  split at U
  · cases U;exact ab.1
  · cases U
 |.goto _,st,ad,y,U,ab=>by cases U
 |.refuse _,st,ad,y,U,ab=>by cases U
end
def sub:Code->List Nat->Code
 |c,[]=>c
 |.seq a _,0::l=>sub a l
 |.seq _ b,_::l=>sub b l
 |.cond _ a _,0::l=>sub a l
 |.cond _ _ b,_::l=>sub b l
 |.block _ b,_::l=>sub b l
 |.loop b,_::l=>sub b l
 |.scope b,_::l=>sub b l
 |.rangeFunc _ _ a _,0::l=>sub a l
 |.rangeFunc _ _ _ b,_::l=>sub b l
 |c,_::_=>c
def c5(fn:Func):Code:=fn.body.getD .skip
def eI:Env->Env->Prop
 |[],_=>True
 |(t,v)::l,Γ=>c4 t Γ=some v/\eI l Γ
theorem eI.ok:∀{gT Γ:Env},eI gT Γ->∀t v,c4 t gT=some v->c4 t Γ=some v
 |[],Γ,_,t,v,h=>by simp[c4] at h
 |(u,x)::l,Γ,⟨h1,aa⟩,t,v,h=>by
  simp only[c4] at h
  rcases rY t u with⟨e,ae⟩|⟨e,ae⟩
  · rw[ae] at h;cases h;rw[e];exact h1
  · rw[ae] at h;exact eI.ok aa t v h
theorem Mod.sub{r:aN}{Γ gT:Env}(h:Mod r Γ)(ad:eI gT Γ):Mod r gT:=λt v bk=>h t v (ad.ok t v bk)
section
variable {P:Program} {need:Nat} {rd:Option Nat} {call:cJ}
def yY(eM:List Nat):ka (gv (aU×aB))->Option (gv (aU×aB))
 |.cm ⟨(e,⟨Γ,d,q,h⟩),cs,[]⟩=>some ⟨(e,⟨lZ Γ eM,d,q,h⟩),cs,[]⟩
 |_=>none
theorem On{c:Code}{st:aB}{ad:List Hint}{e:aU}{bq:aB}{cs:List Prop}(eM:List Nat)(U:yY eM (kG P need rd call c st ad)=some ⟨(e,bq),cs,[]⟩)(ab:cS cs):dy P need rd call c st e bq:=by
 unfold yY at U
 split at U
 · rename_i av fY d1 aT h1 jc Oo
   cases U
   intro r aj
   obtain⟨ba,h1,m1⟩:=od c st ad _ Oo ab r aj
   exact⟨ba,h1,m1.lZ eM⟩
 · cases U
theorem dy.pre{c:Code}{st st1 bq:aB}{e:aU}(h:dy P need rd call c st e bq)(ad:eI st.Γ st1.Γ)(ak:st1.d=st.d)(bj:st1.q=st.q)(af:st1.h=st.h):dy P need rd call c st1 e bq:=by
 intro r aj
 obtain⟨ba,h1,m1⟩:=h r (aj.sub ad)
 exact⟨ba,by rw[ak,bj,af];exact h1,m1⟩
theorem dy.post{c:Code}{st bq:aB}{gT:Env}{e:aU}(h:dy P need rd call c st e bq)(ad:eI gT bq.Γ):dy P need rd call c st e {bq with Γ:=gT}:=by
 intro r aj
 obtain⟨ba,h1,m1⟩:=h r aj
 exact⟨ba,h1,m1.sub ad⟩
def l2(P:Program)(need:Nat)(rd:Option Nat)(call:cJ)(b:Code)(n:Nat)(st:aB)(e:aU)(bq:aB):Prop:=
 ∀r,Mod r st.Γ->∃r',nX (cX P need rd call b) n r st.d st.q st.h=.ok e r' bq.d bq.q bq.h/\Mod r' bq.Γ
theorem l2.step{b:Code}{n:Nat}{st st1 bq:aB}{e:aU}(h:dy P need rd call b st .nrm st1)(aa:l2 P need rd call b n st1 e bq):l2 P need rd call b (n+1) st e bq:=by
 intro r aj
 obtain⟨ba,av,m1⟩:=h r aj
 obtain⟨bH,au,m2⟩:=aa ba m1
 exact⟨bH,by simp only[nX,av,oN,au],m2⟩
theorem l2.exit{b:Code}{n:Nat}{st bq:aB}{e:aU}(h:dy P need rd call b st e bq)(he:e≠ .nrm):l2 P need rd call b (n+1) st e bq:=by
 intro r aj
 obtain⟨ba,av,m1⟩:=h r aj
 exact⟨ba,by simp only[nX,av];exact rC he,m1⟩
theorem B8{f:aN->List bw->az->J->iA}:∀{n m:Nat},n<=m->∀{r d q h e r' d' aX ah},nX f n r d q h=.ok e r' d' aX ah->nX f m r d q h=.ok e r' d' aX ah
 |0,_,_,_,_,_,_,_,_,_,_,_,h=>by cases h
 |n+1,0,hle,_,_,_,_,_,_,_,_,_,_=>by omega
 |n+1,m+1,hle,r,d,q,h,e,r',d',aX,ah,U=>by
  simp only[nX] at U⊢
  cases hf:f r d q h with
  |fail w=>rw[hf] at U;cases U
  |ok av ba d1 aT h1=>
   rw[hf] at U
   cases av<;>simp only[oN] at U⊢ <;>first|exact B8 (by omega) U|exact U
theorem l2.run{b:Code}{n:Nat}{st bq:aB}{e:aU}(h:l2 P need rd call b n st e bq)(aC:n<=100000):dy P need rd call (.loop b) st e bq:=by
 intro r aj
 obtain⟨ba,av,m1⟩:=h r aj
 exact⟨ba,by simp only[cX];exact B8 aC av,m1⟩
def ie:Nat->List I->Env
 |_,[]=>[]
 |i,v::l=>(i,v)::ie (i+1) l
theorem GN(t:Nat)(v:I):∀(l:List I) (i:Nat),c4 t (ie i l)=some v->i<=t/\t<i+l.length/\l[t-i]? =some v
 |[],i,h=>by simp[ie,c4] at h
 |x::l,i,h=>by
  simp only[ie,c4] at h
  rcases rY t i with⟨e,ae⟩|⟨e,ae⟩
  · rw[ae] at h;cases h;subst e;simp
  · rw[ae] at h
    obtain⟨h1,aa,ao⟩:=GN t v l (i+1) h
    refine⟨by omega,by simp;omega,?_⟩
    have:t-i=(t-(i+1))+1:=by omega
    rw[this];simpa using ao
theorem tR(args:List I):Mod (m_ 0 args .leaf) (ie 0 args):=by
 intro t v h
 obtain⟨h1,aa,ao⟩:=GN t v args 0 h
 rw[Bi,if_pos ⟨h1,aa⟩,ao];rfl
def jP(P:Program)(need:Nat)(Γ:Env)(h:J)(x:ResultVar):Option I:=
 match x with
 |.tmp t=>match Nat.testBit need t with
  |true=>c4 t Γ
  |false=>none
 |.cell t ty=>match Nat.testBit need t with
  |true=>match c4 t Γ with
   |none=>none
   |some p=>match p,jX P ty,cQ P ty with
    |.ptr b off,some true,some n=>(match loadCells h b off n with|some cs=>some (.agg cs)|none=>none)
    |.ptr b off,some false,_=>aO h b off
    |_,_,_=>none
  |false=>none
theorem Oq{Γ:Env}{r:aN}(hm:Mod r Γ){h:J}{x:ResultVar}{v:I}(U:jP P need Γ h x=some v):pG P need r h x=some v:=by
 cases x with
 |tmp t=>
  simp only[jP,pG] at U⊢
  split at U
  · rename_i ae
    rw[ae];simp only[hm t v U]
  · cases U
 |cell t ty=>
  simp only[jP,pG] at U⊢
  split at U
  · rename_i ae
    rw[ae]
    simp only
    cases ar:c4 t Γ with
    |none=>rw[ar] at U;simp at U
    |some p=>rw[ar] at U;rw[hm t p ar];exact U
  · cases U
def hL(P:Program)(need:Nat)(fn:Func)(Γ:Env)(h:J):Option I:=
 match lK (jP P need Γ h) fn.results.toList with
 |some [v]=>some v
 |some vs=>some (.aF vs)
 |none=>none
theorem GO{Γ:Env}{r:aN}(hm:Mod r Γ){h:J}:∀(l:List ResultVar) (vs:List I),lK (jP P need Γ h) l=some vs->lK (pG P need r h) l=some vs
 |[],vs,U=>U
 |x::l,vs,U=>by
  simp only[lK] at U⊢
  cases h1:jP P need Γ h x with
  |none=>rw[h1] at U;simp at U
  |some v=>
   rw[h1] at U
   cases aa:lK (jP P need Γ h) l with
   |none=>rw[aa] at U;simp at U
   |some ws=>
    rw[aa] at U
    rw[Oq hm h1,GO hm l ws aa];exact U
theorem tS{Γ:Env}{r:aN}(hm:Mod r Γ){h:J}{fn:Func}{v:I}(U:hL P need fn Γ h=some v):na P need fn r h=some v:=by
 unfold hL at U
 unfold na
 cases aJ:lK (jP P need Γ h) fn.results.toList with
 |none=>rw[aJ] at U;cases U
 |some vs=>
  rw[aJ] at U
  rw[GO hm _ _ aJ];exact U
variable {intr:Nat->List I->J->Option (I×J)}
theorem Ot{f:Nat}{fn:Func}{c:Code}{n:Nat}{args:List I}{h:J}(hf:P.funcs[f]? =some fn)(ae:fn.body=some c)(aC:bG fn=need)(ag:intr f args h=none)(hle:Nat.ble args.length fn.ntmps=true)
  {e:aU}{Γ:Env}{q:az}{ah:J}(de:dy P need none (cF P intr n) c ⟨ie 0 args,[],.none,h⟩ e ⟨Γ,[],q,ah⟩)(he:e=.ret\/e=.nrm){v:I}(eQ:hL P need fn Γ ah=some v):
  cF P intr (n+1) (.fn f) args h=.ret v ah:=by
 subst aC
 obtain⟨ba,h1,m1⟩:=de _ (tR args)
 have aj:=tS m1 eQ
 simp only[cF,ag,oO,hf,ae,jH,hle,h1]
 rcases he with rfl|rfl<;>simp only[mi,ht,aj]
theorem Ou{f:Nat}{fn:Func}{c:Code}{n:Nat}{args:List I}{h:J}(hf:P.funcs[f]? =some fn)(ae:fn.body=some c)(aC:bG fn=need)(ag:intr f args h=none)(hle:Nat.ble args.length fn.ntmps=true)
  {v:I}{Γ:Env}{q:az}{ah:J}(de:dy P need none (cF P intr n) c ⟨ie 0 args,[],.none,h⟩ (.bu v) ⟨Γ,[],q,ah⟩):
  cF P intr (n+1) (.fn f) args h=.bu v ah:=by
 subst aC
 obtain⟨ba,h1,m1⟩:=de _ (tR args)
 simp only[cF,ag,oO,hf,ae,jH,hle,h1,mi,ht]
abbrev aZ(P:Program)(fn:Func)(rd:Option Nat)(call:cJ)(path:List Nat)(st:aB)(e:aU)(bq:aB):Prop:=dy P (bG fn) rd call (sub (c5 fn) path) st e bq
abbrev GP(P:Program)(fn:Func)(rd:Option Nat)(call:cJ)(path:List Nat)(st:aB)(ad:List Hint):ka (gv (aU×aB)):=kG P (bG fn) rd call (sub (c5 fn) path) st ad
theorem Ov{fn:Func}{path:List Nat}{st:aB}{ad:List Hint}{e:aU}{bq:aB}{cs:List Prop}(eM:List Nat)(U:yY eM (GP P fn rd call path st ad)=some ⟨(e,bq),cs,[]⟩)(ab:cS cs):aZ P fn rd call path st e bq:=On eM U ab
end
theorem GQ:∀(c:Code) (x:Nat) (l:List Nat),sub c (x::l)=sub (sub c [x]) l
 |.seq a b,0,l=>by simp[sub]
 |.seq a b,_+1,l=>by simp[sub]
 |.cond _ a b,0,l=>by simp[sub]
 |.cond _ a b,_+1,l=>by simp[sub]
 |.rangeFunc _ _ a b,0,l=>by simp[sub]
 |.rangeFunc _ _ a b,_+1,l=>by simp[sub]
 |.block _ b,x,l=>by simp[sub]
 |.loop b,x,l=>by simp[sub]
 |.scope b,x,l=>by simp[sub]
 |.skip,x,l=>by cases l<;>simp[sub]
 |.region _ _ _,x,l=>by cases l<;>simp[sub]
 |.exit _,x,l=>by cases l<;>simp[sub]
 |.ret,x,l=>by cases l<;>simp[sub]
 |.label _,x,l=>by cases l<;>simp[sub]
 |.goto _,x,l=>by cases l<;>simp[sub]
 |.refuse _,x,l=>by cases l<;>simp[sub]
theorem ig(c:Code):∀(p l:List Nat),sub c (p++l)=sub (sub c p) l
 |[],l=>by simp[sub]
 |x::p,l=>by rw[List.cons_append,GQ,ig (sub c [x]) p l,<-GQ]
def oe:Code->Bool
 |.seq _ _=>true
 |_=>false
def r0(id:Nat):Code->Bool
 |.block i _=>Nat.beq i id
 |_=>false
def r1:Code->Bool
 |.loop _=>true
 |_=>false
theorem yZ{c:Code}(h:oe c=true):c=.seq (sub c [0]) (sub c [1]):=by
 cases c<;>simp[oe,sub] at h⊢
theorem y0{c:Code}{id:Nat}(h:r0 id c=true):c=.block id (sub c [0]):=by
 cases c<;>simp only[r0] at h<;>(try (cases h;done))
 obtain rfl:=Nat.eq_of_beq_eq_true h
 simp[sub]
theorem GR{c:Code}(h:r1 c=true):c=.loop (sub c [0]):=by
 cases c<;>simp[r1,sub] at h⊢
section
variable {P:Program} {rd:Option Nat} {call:cJ} {fn:Func}
theorem dy.seq{need:Nat}{a b:Code}{st st1 st2:aB}{e:aU}(h1:dy P need rd call a st .nrm st1)(aa:dy P need rd call b st1 e st2):dy P need rd call (.seq a b) st e st2:=by
 intro r aj
 obtain⟨ba,av,m1⟩:=h1 r aj
 obtain⟨bH,au,m2⟩:=aa ba m1
 exact⟨bH,by simp only[cX,av,oN,au],m2⟩
theorem dy.r2{need:Nat}{a b:Code}{st st1:aB}{e:aU}(h1:dy P need rd call a st e st1)(he:e≠ .nrm):dy P need rd call (.seq a b) st e st1:=by
 intro r aj
 obtain⟨ba,av,m1⟩:=h1 r aj
 exact⟨ba,by simp only[cX,av];exact rC he,m1⟩
theorem dy.block{need:Nat}{id:Nat}{b:Code}{st st1:aB}(h1:dy P need rd call b st (.exit id) st1):dy P need rd call (.block id b) st .nrm st1:=by
 intro r aj
 obtain⟨ba,av,m1⟩:=h1 r aj
 exact⟨ba,by simp only[cX,av,if_true],m1⟩
theorem dy.lh{need:Nat}{id:Nat}{b:Code}{st st1:aB}{e:aU}(h1:dy P need rd call b st e st1)(he:e≠ .exit id):dy P need rd call (.block id b) st e st1:=by
 intro r aj
 obtain⟨ba,av,m1⟩:=h1 r aj
 refine⟨ba,?_,m1⟩
 simp only[cX,av]
 cases e<;>first|rfl|(rename_i i;exact if_neg λh=>he (by rw[h]))
theorem aZ.seq{p:List Nat}{st st1 st2:aB}{e:aU}(ad:oe (sub (c5 fn) p)=true)(h1:aZ P fn rd call (p++[0]) st .nrm st1)(aa:aZ P fn rd call (p++[1]) st1 e st2):aZ P fn rd call p st e st2:=by
 unfold aZ at*
 rw[yZ ad]
 rw[ig] at h1 aa
 exact h1.seq aa
theorem aZ.r2{p:List Nat}{st st1:aB}{e:aU}(ad:oe (sub (c5 fn) p)=true)(h1:aZ P fn rd call (p++[0]) st e st1)(he:e≠ .nrm):aZ P fn rd call p st e st1:=by
 unfold aZ at*
 rw[yZ ad]
 rw[ig] at h1
 exact h1.r2 he
theorem aZ.block{p:List Nat}{id:Nat}{st st1:aB}(ad:r0 id (sub (c5 fn) p)=true)(h1:aZ P fn rd call (p++[0]) st (.exit id) st1):aZ P fn rd call p st .nrm st1:=by
 unfold aZ at*
 rw[y0 ad]
 rw[ig] at h1
 exact h1.block
theorem aZ.lh{p:List Nat}{id:Nat}{st st1:aB}{e:aU}(ad:r0 id (sub (c5 fn) p)=true)(h1:aZ P fn rd call (p++[0]) st e st1)(he:e≠ .exit id):aZ P fn rd call p st e st1:=by
 unfold aZ at*
 rw[y0 ad]
 rw[ig] at h1
 exact h1.lh he
def eY(P:Program)(fn:Func)(rd:Option Nat)(call:cJ)(p:List Nat)(n:Nat)(st:aB)(e:aU)(bq:aB):Prop:=l2 P (bG fn) rd call (sub (c5 fn) (p++[0])) n st e bq
theorem eY.step{p:List Nat}{n:Nat}{st st1 bq:aB}{e:aU}(h:aZ P fn rd call (p++[0]) st .nrm st1)(aa:eY P fn rd call p n st1 e bq):eY P fn rd call p (n+1) st e bq:=l2.step h aa
theorem eY.exit{p:List Nat}{n:Nat}{st bq:aB}{e:aU}(h:aZ P fn rd call (p++[0]) st e bq)(he:e≠ .nrm):eY P fn rd call p (n+1) st e bq:=l2.exit h he
theorem eY.run{p:List Nat}{n:Nat}{st bq:aB}{e:aU}(ad:r1 (sub (c5 fn) p)=true)(h:eY P fn rd call p n st e bq)(aC:n<=100000):aZ P fn rd call p st e bq:=by
 unfold aZ
 rw[GR ad]
 unfold eY at h
 rw[ig] at h
 exact l2.run h aC
theorem GS{intr:Nat->List I->J->Option (I×J)}{f:Nat}{n:Nat}{args:List I}{h:J}(hf:P.funcs[f]? =some fn)(ae:fn.body.isSome=true)(ag:intr f args h=none)(hle:Nat.ble args.length fn.ntmps=true)
  {e:aU}{Γ:Env}{q:az}{ah:J}(de:aZ P fn none (cF P intr n) [] ⟨ie 0 args,[],.none,h⟩ e ⟨Γ,[],q,ah⟩)(he:e=.ret\/e=.nrm){v:I}(eQ:hL P (bG fn) fn Γ ah=some v):
  cF P intr (n+1) (.fn f) args h=.ret v ah:=by
 obtain⟨c,ab⟩:=Option.isSome_iff_exists.1 ae
 have r3:c5 fn=c:=by simp[c5,ab]
 unfold aZ at de
 rw[r3] at de
 simp only[sub] at de
 exact Ot hf ab rfl ag hle de he eQ
theorem B9{intr:Nat->List I->J->Option (I×J)}{f:Nat}{n:Nat}{args:List I}{h:J}(hf:P.funcs[f]? =some fn)(ae:fn.body.isSome=true)(ag:intr f args h=none)(hle:Nat.ble args.length fn.ntmps=true)
  {v:I}{Γ:Env}{q:az}{ah:J}(de:aZ P fn none (cF P intr n) [] ⟨ie 0 args,[],.none,h⟩ (.bu v) ⟨Γ,[],q,ah⟩):cF P intr (n+1) (.fn f) args h=.bu v ah:=by
 obtain⟨c,ab⟩:=Option.isSome_iff_exists.1 ae
 have r3:c5 fn=c:=by simp[c5,ab]
 unfold aZ at de
 rw[r3] at de
 simp only[sub] at de
 exact Ou hf ab rfl ag hle de
theorem tT{i m:Nat}(ag:i<m)(hm:m<=1000000000000):arith BinOp.add IntKind.i64 (Int.ofNat i) (Int.ofNat 1)=some (I.int IntKind.i64 (Int.ofNat (i+1))):=by
 have h:=n2 (i+1) (by omega)
 have e:Int.ofNat i+Int.ofNat 1=((i+1:Nat):Int):=rfl
 simp only[arith,e,h];rfl
theorem GU{i j:Nat}(h:i+j<=1000000000000):arith BinOp.add IntKind.i64 (Int.ofNat i) (Int.ofNat j)=some (I.int IntKind.i64 (Int.ofNat (i+j))):=by
 have h:=n2 (i+j) (by omega)
 have e:Int.ofNat i+Int.ofNat j=((i+j:Nat):Int):=rfl
 simp only[arith,e,h];rfl
theorem kH{a b:Nat}(h:a<b):eC (Int.ofNat a) (Int.ofNat b)=true:=by simp[eC];omega
theorem nD{a b:Nat}(h:¬a<b):eC (Int.ofNat a) (Int.ofNat b)=false:=by simp[eC];omega
theorem wo{s:List UInt8}{i:Nat}(h:i<s.length):hb i s=some (.int .u8 (Int.ofNat (s[i]).toNat)):=by
 unfold hb
 rw[ks,List.getElem?_eq_getElem h]
theorem Ow{α:Type}{f g:Nat->α}{m:Nat}(h:(List.range m).map f=(List.range m).map g){c:Nat}(ab:c<m):f c=g c:=by
 have h1:((List.range m).map f)[c]? =((List.range m).map g)[c]? :=by rw[h]
 simpa[ab] using h1
end
structure Ext(B:Nat)(h ah:J):Prop where
 n:h.n<=ah.n
 get:∀b,b<B->ah.get b=h.get b
theorem Ext.refl(B:Nat)(h:J):Ext B h h:=⟨Nat.le_refl _,λ_ _=>rfl⟩
theorem Ext.trans{B lj:Nat}{h h1 aa:J}(dX:B<=lj)(e:Ext B h h1)(cw:Ext lj h1 aa):Ext B h aa:=⟨Nat.le_trans e.n cw.n,λb ae=>(cw.get b (Nat.lt_of_lt_of_le ae dX)).trans (e.get b ae)⟩
theorem Ext.push{B:Nat}{h:J}(dX:B<=h.n)(o:b8):Ext B h (h.push o):=⟨by simp,λb ae=>by rw[J.gC,if_neg (by omega)]⟩
theorem Ext.set{B:Nat}{h:J}{b:Nat}(ae:B<=b)(o:Option b8):Ext B h (h.set b o):=⟨by simp,λc ab=>by rw[J.cL,if_neg (by omega)]⟩
theorem Ext.room(B:Nat)(h:J)(k:Nat):Ext B h (h.room k):=⟨by simp,λ_ _=>rfl⟩
def Row1(B e:Nat)(h:J)(v:I)(xs:List I):Prop:=
 (v=.bn/\xs=[])\/∃b rest,v=.slice b 0 xs.length (.aH 1)/\h.get b=some (.cells (xs++rest) e .aH 0 0)/\B<=b/\b<h.n/\rest.all I.ca=true
theorem y1:∀(l m:List I),takeN l.length (l++m)=some l
 |[],m=>rfl
 |a::l,m=>by simp[takeN,y1 l m]
theorem y2{h:J}{b e bB ag:Nat}{k:e3}{xs rest:List I}(an:h.get b=some (.cells (xs++rest) e k bB ag)):loadCells h b 0 xs.length=some xs:=by
 simp[loadCells,an,hQ,y1]
theorem GV:∀(l m:List I) (x y:I) (r:List I),x.ca=true->putCells l.length [x] (l++y::r)=some (l++x::r)
 |[],m,x,y,r,U=>by
  simp only[List.length_nil,List.nil_append]
  cases r with
  |nil=>simp[putCells,U]
  |cons z r=>simp[putCells,U]
 |a::l,m,x,y,r,U=>by
  have bc:=GV l m x y r U
  simp only[List.length_cons,List.cons_append,putCells,bc]
section
variable {P:Program}
theorem tU{h:J}{e bytes size need:Nat}{z:I}{cs:List I}{fz:Nat}(h1:jY need bytes=true)(aa:Nat.beq z.cells.length size=true)(ao:cs.all I.ca=true):mU h e bytes size need z cs fz=some (.slice h.n 0 need (.aH size),h.push (.cells cs e .aH 0 fz)):=by
 unfold mU
 rw[h1,aa,ao];rfl
theorem Ox{B:Nat}{h:J}{v x:I}{xs:List I}{sT e:TypeId}{xT:Option TypeId}{i:TypeInfo}{z:I}(dX:B<=h.n)(hu:P.underlying sT=some (.slice e))(gn:nV P xT=true)(ag:P.info? e=some i)(bp:i.size=1)(aW:ek P e=some z)(mu:z.cells.length=1)
  (n3:jY (xs.length+1) i.bytes=true)(U:x.ca=true)(B_:xs.all I.ca=true)(aj:Row1 B e h v xs):
  ∃v' ah,en P (h.push (.cells [x] e .own 0 0)) sT xT v (.slice h.n 0 1 (.exact 1))=some (v',ah)/\Row1 B e ah v' (xs++[x])/\Ext B h ah:=by
 have y3:Ext B h (h.push (.cells [x] e .own 0 0)):=Ext.push dX _
 have hH:(h.push (.cells [x] e .own 0 0)).get h.n=some (.cells [x] e .own 0 0):=by rw[J.gC,if_pos rfl]
 have Oy:(h.push (.cells [x] e .own 0 0)).n=h.n+1:=rfl
 have GW:∀b,b<h.n->(h.push (.cells [x] e .own 0 0)).get b=h.get b:=λb ae=>by rw[J.gC,if_neg (by omega)]
 generalize h.push (.cells [x] e .own 0 0)=H at y3 hH Oy GW⊢
 have r4:h7 H 1 (.slice h.n 0 1 (.exact 1))=some (1,[x]):=by
  simp[h7,loadCells,hH,hQ,takeN]
 have wq:Nat.beq z.cells.length 1=true:=by rw[mu];rfl
 rcases aj with⟨rfl,rfl⟩|⟨b,rest,rfl,an,jO,ev,j2⟩
 · refine⟨.slice H.n 0 1 (.aH 1),H.push (.cells [x] e .aH 0 0),?_,.inr ⟨H.n,[],by simp,by rw[J.gC,if_pos rfl];simp,by omega,by simp,rfl⟩,y3.trans (Nat.le_refl _) (Ext.push (by omega) _)⟩
   have Ca:jY 1 i.bytes=true:=by simpa using n3
   have ew:=tU (h:=H) (e:=e) (fz:=0) Ca wq (cs:=[x]) (by simp[U])
   simp only[en,hu,gn,ag,aW,bp,r4,ew]
 · have y4:H.get b=some (.cells (xs++rest) e .aH 0 0):=(GW b ev).trans an
   cases rest with
   |cons y r=>
    refine⟨.slice b 0 (xs.length+1) (.aH 1),H.set b (some (.cells (xs++x::r) e .aH 0 0)),?_,.inr ⟨b,r,by simp,by rw[J.cL,if_pos rfl];simp,jO,by simp;omega,by simp at j2;simpa using j2.2⟩,y3.trans (Nat.le_refl _) (Ext.set jO _)⟩
    have hle:Nat.ble (xs.length+1) (xs++y::r).length=true:=by simp
    have a8:=GV xs [] x y r U
    have tV:(Nat.beq 1 1&&Nat.blt 0 1)=true:=rfl
    have nE:Nat.ble (0+(xs.length+1)*1) (xs++y::r).length=true:=by rw[Nat.zero_add,Nat.mul_one];exact hle
    have hw:∀m:Nat,jm .aH 0 0 m [x].length=true:=λm=>by unfold jm;simp
    have rF:putCells (0+xs.length*1) [x] (xs++y::r)=some (xs++x::r):=by rw[Nat.zero_add,Nat.mul_one];exact a8
    simp only[en,hu,gn,ag,aW,bp,r4,tV,y4,nE,storeCells,hw,rF]
   |nil=>
    have ar:loadCells H b 0 xs.length=some xs:=y2 y4
    refine⟨.slice (H.set b none).n 0 (xs.length+1) (.aH 1),(H.set b none).push (.cells (xs++[x]) e .aH 0 0),?_,.inr ⟨(H.set b none).n,[],by simp,by rw[J.gC,if_pos rfl];simp,by simp;omega,by simp,rfl⟩,
     y3.trans (Nat.le_refl _) ((Ext.set jO none).trans (Nat.le_refl _) (Ext.push (by simp;omega) _))⟩
    have bx:Nat.ble (xs.length+1) xs.length=false:=by
     cases ae:Nat.ble (xs.length+1) xs.length with
     |false=>rfl
     |true=>simp at ae;omega
    have dD:(xs++[x]).all I.ca=true:=by simp[List.all_append,B_,U]
    simp only[List.append_nil] at y4
    have tV:(Nat.beq 1 1&&Nat.blt 0 1)=true:=rfl
    have nE:Nat.ble (0+(xs.length+1)*1) xs.length=false:=by rw[Nat.zero_add,Nat.mul_one];exact bx
    have pY:loadCells H b 0 (xs.length*1)=some xs:=by rw[Nat.mul_one];exact ar
    have Cb:(Nat.ble 0 (0+xs.length*1)&&Nat.beq e e)=true:=by simp
    have ew:=tU (h:=H.set b none) (e:=e) (fz:=0-0) n3 wq dD
    simp only[en,hu,gn,ag,aW,bp,r4,tV,y4,nE,pY,Cb,ew]
theorem Oz{h:J}{t:TypeId}{s:List UInt8}{bB ag:Nat}{k gA:IntKind}(hu:P.underlying t=some .string)(h1:bB<=ag)(aa:ag<=s.length):
  fV P h t (.str s) (some (.int k (Int.ofNat bB))) (some (.int gA (Int.ofNat ag))) none=some (.str ((s.drop bB).take (ag-bB))):=by
 have ck:Nat.ble s.length s.length=true:=by simp
 have cn:Nat.ble ag s.length=true:=by simpa using aa
 have fT:Nat.ble bB ag=true:=by simpa using h1
 simp only[fV,hu,bounds,iz,eT,ck,cn,fT,lL]
theorem GX{h:J}{t:TypeId}{s:List UInt8}{ag:Nat}{gA:IntKind}(hu:P.underlying t=some .string)(aa:ag<=s.length):
  fV P h t (.str s) none (some (.int gA (Int.ofNat ag))) none=some (.str (s.take ag)):=by
 have ck:Nat.ble s.length s.length=true:=by simp
 have cn:Nat.ble ag s.length=true:=by simpa using aa
 have fT:Nat.ble 0 ag=true:=by simp
 simp only[fV,hu,bounds,iz,eT,ck,cn,fT,lL,List.drop_zero,Nat.sub_zero]
theorem OA{h:J}{t:TypeId}{s:List UInt8}{bB:Nat}{k:IntKind}(hu:P.underlying t=some .string)(aa:bB<=s.length):
  fV P h t (.str s) (some (.int k (Int.ofNat bB))) none none=some (.str (s.drop bB)):=by
 have ck:Nat.ble s.length s.length=true:=by simp
 have cn:Nat.ble bB s.length=true:=by simpa using aa
 simp only[fV,hu,bounds,iz,eT,ck,cn,lL]
 rw[List.take_of_length_le (by simp)]
theorem y5{x y:List UInt8}(h:x.length+y.length<=1000000000000):oH .add x y=some (.str (x++y)):=by
 have:¬(((x.length+y.length:Nat):Int)>IntKind.i64.max):=by
  have e:IntKind.i64.max=9223372036854775807:=rfl
  rw[e];omega
 simp only[oH,if_neg this]
end
variable {P:Program} {call:cJ}
def Cc(l:Nat)(e:aU)(need:Nat)(r:aN)(ps:List Nat)(as b2:Code)(cK:Nat)(h:J):bM:=match e with
 |.nrm=>.ret (.bool true) (h.set l (some (.loop .ready none need r ps as b2 cK)))
 |.ret=>.ret (.bool false) (h.set l (some (.loop .done (some .ret) need r ps as b2 cK)))
 |.exit id=>.ret (.bool false) (h.set l (some (.loop .done (some (.exit id)) need r ps as b2 cK)))
 |.bu v=>.bu v h
 |.goto _=>.fail ""
theorem OB{l need t cK:Nat}{Γ fY gT:Env}{as b2:Code}{v:I}{h aa:J}{q bb:az}{e:aU}{r:aN}
  (an:h.get l=some (.loop .ready none need r [t] as b2 cK))(hm:Mod r Γ)
  (aJ:dy P need (some l) call as ⟨put t v Γ,[],.none,h⟩ .nrm ⟨fY,[],q,h⟩)
  (ae:dy P need (some l) call b2 ⟨fY,[],.none,h.set l (some (.loop .busy none need r [t] as b2 cK))⟩ e ⟨gT,[],bb,aa⟩)
  (hk:aa.get l=some (.loop .busy none need r [t] as b2 cK)):
  mj P call l [v] h=Cc l e need r [t] as b2 cK aa:=by
 obtain⟨ba,av,m1⟩:=aJ _ (hm.put t v)
 obtain⟨bH,au,m2⟩:=ae _ m1
 simp only at av au
 simp only[mj,an,q7,av,xI,au]
 simp only[ta,hk]
 cases e<;>rfl
theorem kd{h:J}{b t:Nat}{x:I}(an:h.get b=some (.cells [x] t .own 0 0)):aO h b 0=some x:=by
 simp only[aO,an];rfl
theorem r5{h:J}{b t:Nat}{x y:I}(aP:y.ca=true)(an:h.get b=some (.cells [x] t .own 0 0)):aS.storeCells h b 0 [y]=some (h.set b (some (.cells [y] t .own 0 0))):=by
 have hw:jm .own 0 0 0 [y].length=true:=rfl
 simp only[aS.storeCells,an,hw,putCells,aP]
end aS
namespace aS
open Go
def W(P:Program)(need:Nat)(rd:Option Nat)(call:cJ)(c:Code)(Q:aU->aN->List bw->az->J->Prop)(r:aN)(d:List bw)(q:az)(h:J):Prop:=
 ∃e r' d' aX ah,cX P need rd call c r d q h=.ok e r' d' aX ah/\Q e r' d' aX ah
section
variable {P:Program} {need:Nat} {rd:Option Nat} {call:cJ} {fn:Func}
theorem W.of{c:Code}{Q:aU->aN->List bw->az->J->Prop}{r:aN}{st bq:aB}{e:aU}(aj:dy P need rd call c st e bq)(hm:Mod r st.Γ)(k:∀r',Mod r' bq.Γ->Q e r' bq.d bq.q bq.h):W P need rd call c Q r st.d st.q st.h:=by
 obtain⟨r',h1,aa⟩:=aj r hm
 exact⟨e,r',_,_,_,h1,k r' aa⟩
theorem W.seq{a b:Code}{Q:aU->aN->List bw->az->J->Prop}{r:aN}{d:List bw}{q:az}{h:J}
  (hw:W P need rd call a (λe r d q h=>(e=.nrm/\W P need rd call b Q r d q h)\/(e≠ .nrm/\Q e r d q h)) r d q h):W P need rd call (.seq a b) Q r d q h:=by
 obtain⟨e,ba,d1,aT,h1,aa,ao⟩:=hw
 rcases ao with⟨rfl,au,bH,d2,bb,aI,bl,cg⟩|⟨b9,bj⟩
 · exact⟨au,bH,d2,bb,aI,by simp only[cX,aa,oN,bl],cg⟩
 · exact⟨e,ba,d1,aT,h1,by simp only[cX,aa];exact rC b9,bj⟩
theorem W.block{id:Nat}{b:Code}{Q:aU->aN->List bw->az->J->Prop}{r:aN}{d:List bw}{q:az}{h:J}
  (hw:W P need rd call b (λe r d q h=>(e=.exit id/\Q .nrm r d q h)\/(e≠ .exit id/\Q e r d q h)) r d q h):W P need rd call (.block id b) Q r d q h:=by
 obtain⟨e,ba,d1,aT,h1,aa,ao⟩:=hw
 rcases ao with⟨rfl,bj⟩|⟨b9,bj⟩
 · exact⟨.nrm,ba,d1,aT,h1,by simp only[cX,aa,if_true],bj⟩
 · refine⟨e,ba,d1,aT,h1,?_,bj⟩
   simp only[cX,aa]
   cases e<;>first|rfl|(rename_i i;exact if_neg λh=>b9 (by rw[h]))
abbrev WF(P:Program)(fn:Func)(rd:Option Nat)(call:cJ)(path:List Nat):=W P (bG fn) rd call (sub (c5 fn) path)
theorem WF.seq{p:List Nat}{Q:aU->aN->List bw->az->J->Prop}{r:aN}{d:List bw}{q:az}{h:J}(ad:oe (sub (c5 fn) p)=true)
  (hw:WF P fn rd call (p++[0]) (λe r d q h=>(e=.nrm/\WF P fn rd call (p++[1]) Q r d q h)\/(e≠ .nrm/\Q e r d q h)) r d q h):WF P fn rd call p Q r d q h:=by
 unfold WF at*
 rw[yZ ad]
 rw[ig,ig] at hw
 exact hw.seq
theorem WF.block{p:List Nat}{id:Nat}{Q:aU->aN->List bw->az->J->Prop}{r:aN}{d:List bw}{q:az}{h:J}(ad:r0 id (sub (c5 fn) p)=true)
  (hw:WF P fn rd call (p++[0]) (λe r d q h=>(e=.exit id/\Q .nrm r d q h)\/(e≠ .exit id/\Q e r d q h)) r d q h):WF P fn rd call p Q r d q h:=by
 unfold WF at*
 rw[y0 ad]
 rw[ig] at hw
 exact hw.block
def Cd(f:Operand)(ps:List Nat):Code->Bool
 |.rangeFunc (.tmp g) r6 _ _=>(match f with|.tmp t=>Nat.beq g t|_=>false)&&r6.toList==ps
 |_=>false
theorem OC{c:Code}{t:Nat}{ps:List Nat}(h:Cd (.tmp t) ps c=true):∃r6:Array Nat,r6.toList=ps/\c=.rangeFunc (.tmp t) r6 (sub c [0]) (sub c [1]):=by
 unfold Cd at h
 split at h
 · rename_i g r6 a b
   simp only[Bool.and_eq_true] at h
   obtain⟨h1,aa⟩:=h
   obtain rfl:=Nat.eq_of_beq_eq_true h1
   exact⟨r6,eq_of_beq aa,by simp[sub]⟩
 · cases h
theorem W.range{f:Operand}{ps:Array Nat}{as b2:Code}{Γ:Env}{Q:aU->aN->List bw->az->J->Prop}{r:aN}{d:List bw}{q:az}{h:J}{g:Nat}{caps:List I}
  (hf:kF 0 [] Γ (bX P need [] f)=some (.fn g [] caps))(hm:Mod r Γ)
  (ab:∃e ah,mZ (h.n+1) r (.collected h.n::d) q (call (.fn g) (.b7 (h.n+1)::caps) ((h.push (.defrd (some []))).push (.loop .ready none need r ps.toList as b2 h.n)))=.ok e r (.collected h.n::d) q ah/\Q e r (.collected h.n::d) q ah):
  W P need none call (.rangeFunc f ps as b2) Q r d q h:=by
 obtain⟨e,ah,c1,c2⟩:=ab
 refine⟨e,r,_,q,ah,?_,c2⟩
 have an:=qq hm hf
 rw[<-c1]
 simp only[cX,uY,an,q4,mY]
 rfl
theorem WF.range{p:List Nat}{t:Nat}{ps:List Nat}{Γ:Env}{Q:aU->aN->List bw->az->J->Prop}{r:aN}{d:List bw}{q:az}{h:J}{g:Nat}{caps:List I}(ad:Cd (.tmp t) ps (sub (c5 fn) p)=true)
  (aC:Nat.testBit (bG fn) t=true)(hf:c4 t Γ=some (.fn g [] caps))(hm:Mod r Γ)
  (ab:∃e ah,mZ (h.n+1) r (.collected h.n::d) q (call (.fn g) (.b7 (h.n+1)::caps) ((h.push (.defrd (some []))).push (.loop .ready none (bG fn) r ps (sub (c5 fn) (p++[0])) (sub (c5 fn) (p++[1])) h.n)))=.ok e r (.collected h.n::d) q ah/\Q e r (.collected h.n::d) q ah):
  WF P fn none call p Q r d q h:=by
 obtain⟨r6,bj,he⟩:=OC ad
 unfold WF
 rw[ig,ig] at ab
 rw[he]
 subst bj
 refine W.range (Γ:=Γ) ?_ hm ab
 have:bX P (bG fn) [] (.tmp t)=.jo (fA t):=by
  unfold bX
  simp only[gY,aC]
 rw[this]
 show c4 (fA t).num Γ=_
 rw[xK];exact hf
theorem OD{intr:Nat->List I->J->Option (I×J)}{f:Nat}{n:Nat}{args:List I}{h:J}{X:bM}(hf:P.funcs[f]? =some fn)(ae:fn.body.isSome=true)(ag:intr f args h=none)(hle:Nat.ble args.length fn.ntmps=true)
  (hw:WF P fn none (cF P intr n) [] (λe r d q ah=>mi P (cF P intr n) fn (.ok e r d q ah)=X) (m_ 0 args .leaf) [] .none h):cF P intr (n+1) (.fn f) args h=X:=by
 obtain⟨c,ab⟩:=Option.isSome_iff_exists.1 ae
 have r3:c5 fn=c:=by simp[c5,ab]
 obtain⟨e,r,d,q,ah,h1,aa⟩:=hw
 rw[r3] at h1
 simp only[sub] at h1
 simp only[cF,ag,oO,hf,ab,jH,hle,h1,aa]
end
theorem r7:∀l:List UInt8,(cU l).length=l.length
 |[]=>rfl
 |a::l=>by simp[cU,r7 l]
theorem y6:∀l m:List UInt8,cU (l++m)=cU l++cU m
 |[],m=>rfl
 |a::l,m=>by simp[cU,y6 l m]
theorem y7:∀l:List UInt8,(cU l).all I.ca=true
 |[]=>rfl
 |a::l=>by rw[cU,List.all_cons,y7 l];rfl
theorem Ce:∀l:List UInt8,lF (cU l)=some l
 |[]=>rfl
 |a::l=>by
  have h1:Nat.blt a.toNat 256=true:=by have:=UInt8.toNat_lt a;simp[Nat.blt];omega
  simp only[cU,lF,Ce l,h1,UInt8.ofNat_toNat]
theorem GY:∀(xs fa:List I),xs.all I.ca=true->xs.length<=fa.length->putCells 0 xs fa=some (xs++fa.drop xs.length)
 |[],fa,_,_=>by cases fa<;>simp[putCells]
 |x::xs,[],_,h=>by simp at h
 |x::xs,y::fa,U,h=>by
  simp only[List.all_cons,Bool.and_eq_true] at U
  have bc:=GY xs fa U.2 (by simpa using h)
  simp[putCells,U.1,bc]
theorem Cf:∀(l xs fa:List I),xs.all I.ca=true->xs.length<=fa.length->putCells l.length xs (l++fa)=some (l++(xs++fa.drop xs.length))
 |[],xs,fa,U,h=>by simpa using GY xs fa U h
 |a::l,[],fa,U,h=>by simp[putCells]
 |a::l,x::xs,fa,U,h=>by
  have bc:=Cf l (x::xs) fa U h
  simp only[List.length_cons,List.cons_append,putCells] at bc⊢
  rw[bc]
theorem OE{i j:Nat}(h:i+j<9223372036854775808):arith BinOp.add IntKind.i64 (Int.ofNat i) (Int.ofNat j)=some (I.int IntKind.i64 (Int.ofNat (i+j))):=by
 have h:=n2 (i+j) h
 have e:Int.ofNat i+Int.ofNat j=((i+j:Nat):Int):=rfl
 simp only[arith,e,h];rfl
theorem OF{i j:Nat}(aG:j<=i)(h:i<9223372036854775808):arith BinOp.sub IntKind.i64 (Int.ofNat i) (Int.ofNat j)=some (I.int IntKind.i64 (Int.ofNat (i-j))):=by
 have h:=n2 (i-j) (by omega)
 have e:Int.ofNat i-Int.ofNat j=((i-j:Nat):Int):=by
  have av:Int.ofNat i=(i:Int):=rfl
  have au:Int.ofNat j=(j:Int):=rfl
  rw[av,au];omega
 simp only[arith,e,h];rfl
theorem OG{i j:Nat}(h:i*j<9223372036854775808):arith BinOp.mul IntKind.i64 (Int.ofNat i) (Int.ofNat j)=some (I.int IntKind.i64 (Int.ofNat (i*j))):=by
 have h:=n2 (i*j) h
 have e:Int.ofNat i*Int.ofNat j=((i*j:Nat):Int):=rfl
 simp only[arith,e,h];rfl
theorem GZ{i j:Nat}(aG:0<j)(h:i<9223372036854775808):arith BinOp.quo IntKind.i64 (Int.ofNat i) (Int.ofNat j)=some (I.int IntKind.i64 (Int.ofNat (i/j))):=by
 have h:=n2 (i/j) (by have:=Nat.div_le_self i j;omega)
 have e:(Int.ofNat i).tdiv (Int.ofNat j)=((i/j:Nat):Int):=rfl
 have b9:¬(Int.ofNat j=0):=by
  have av:Int.ofNat j=(j:Int):=rfl
  rw[av];omega
 simp only[arith,if_neg b9,e,h];rfl
theorem G0{a b:Nat}(h:a<=b):hp (Int.ofNat a) (Int.ofNat b)=true:=by simp[hp];omega
theorem G1{a b:Nat}(h:¬a<=b):hp (Int.ofNat a) (Int.ofNat b)=false:=by simp[hp];omega
def og(B e:Nat)(h:J)(v:I)(w:List UInt8):Prop:=
 (v=.bn/\w=[])\/∃c rest,v=.slice c 0 w.length (.aH 1)/\h.get c=some (.cells (cU w++rest) e .aH 0 0)/\B<=c/\c<h.n
theorem og.ext{B e:Nat}{h ah:J}{v:I}{w:List UInt8}(ae:og B e h v w)(aC:h.n<=ah.n)(an:∀c,B<=c->c<h.n->ah.get c=h.get c):og B e ah v w:=by
 rcases ae with h1|⟨c,rest,h1,aa,ao,aI⟩
 · exact .inl h1
 · exact .inr ⟨c,rest,h1,(an c ao aI).trans aa,ao,by omega⟩
section
variable {P:Program}
theorem G2{B:Nat}{h:J}{v:I}{w s:List UInt8}{sT e:TypeId}{xT:Option TypeId}{i:TypeInfo}{z:I}(dX:B<=h.n)(hu:P.underlying sT=some (.slice e))(gn:nV P xT=true)(ag:P.info? e=some i)(bp:i.size=1)(aW:ek P e=some z)(mu:z.cells.length=1)
  (n3:jY (w.length+s.length) i.bytes=true)(aj:og B e h v w):
  ∃v' ah,en P h sT xT v (.str s)=some (v',ah)/\og B e ah v' (w++s)/\Ext B h ah:=by
 have r4:h7 h 1 (.str s)=some (s.length,cU s):=rfl
 have wq:Nat.beq z.cells.length 1=true:=by rw[mu];rfl
 rcases aj with⟨rfl,rfl⟩|⟨c,rest,rfl,an,wu,wi⟩
 · cases s with
   |nil=>exact⟨.bn,h,by simp only[en,hu,gn,ag,aW,bp];rfl,.inl ⟨rfl,rfl⟩,Ext.refl _ _⟩
   |cons a s=>
    have Ca:jY (a::s).length i.bytes=true:=by simpa using n3
    have ew:=tU (h:=h) (e:=e) (fz:=0) Ca wq (y7 (a::s))
    refine⟨.slice h.n 0 (a::s).length (.aH 1),h.push (.cells (cU (a::s)) e .aH 0 0),?_,.inr ⟨h.n,[],by simp,by rw[J.gC,if_pos rfl];simp,dX,by simp⟩,Ext.push dX _⟩
    rw[<-ew]
    simp only[en,hu,gn,ag,aW,bp,r4]
    rfl
 · cases s with
   |nil=>exact⟨.slice c 0 w.length (.aH 1),h,by simp only[en,hu,gn,ag,aW,bp];rfl,.inr ⟨c,rest,by simp,by simpa using an,wu,wi⟩,Ext.refl _ _⟩
   |cons a s=>
    have tV:(Nat.beq 1 1&&Nat.blt 0 1)=true:=rfl
    by_cases p3:(a::s).length<=rest.length
    · have nE:Nat.ble (0+(w.length+(a::s).length)*1) (cU w++rest).length=true:=by
        simp only[Nat.ble_eq,List.length_append,r7];omega
      have a8:=Cf (cU w) (cU (a::s)) rest (y7 _) (by rw[r7];exact p3)
      have hw:jm .aH 0 0 (0+w.length*1) (cU (a::s)).length=true:=by unfold jm;simp
      have rF:putCells (0+w.length*1) (cU (a::s)) (cU w++rest)=some (cU w++(cU (a::s)++rest.drop (cU (a::s)).length)):=by
       rw[<-a8,r7];simp
      refine⟨.slice c 0 (w.length+(a::s).length) (.aH 1),h.set c (some (.cells (cU w++(cU (a::s)++rest.drop (cU (a::s)).length)) e .aH 0 0)),?_,.inr ⟨c,rest.drop (cU (a::s)).length,by simp,by rw[J.cL,if_pos rfl,y6];simp,wu,by simpa using wi⟩,Ext.set wu _⟩
      simp only[en,hu,gn,ag,aW,bp,r4]
      simp only[tV,List.length_cons,an]
      simp only[List.length_cons] at nE rF hw
      simp only[nE,aS.storeCells,an,hw,rF]
    · have nE:Nat.ble (0+(w.length+(a::s).length)*1) (cU w++rest).length=false:=by
        cases ae:Nat.ble (0+(w.length+(a::s).length)*1) (cU w++rest).length with
        |false=>rfl
        |true=>simp only[Nat.ble_eq,List.length_append,r7] at ae;omega
      have ar:loadCells h c 0 (w.length*1)=some (cU w):=by
       have:=y2 (xs:=cU w) an
       rw[r7] at this;simpa using this
      have dD:(cU w++cU (a::s)).all I.ca=true:=by rw[<-y6];exact y7 _
      have Cb:(Nat.ble 0 (0+w.length*1)&&Nat.beq e e)=true:=by simp
      have ew:=tU (h:=h.set c none) (e:=e) (fz:=0-0) n3 wq dD
      refine⟨.slice (h.set c none).n 0 (w.length+(a::s).length) (.aH 1),(h.set c none).push (.cells (cU w++cU (a::s)) e .aH 0 0),?_,.inr ⟨(h.set c none).n,[],by simp,by rw[J.gC,if_pos rfl,y6];simp,by simp;omega,by simp⟩,
       (Ext.set wu none).trans (Nat.le_refl _) (Ext.push (by simp;omega) _)⟩
      simp only[List.length_cons] at nE ew
      simp only[en,hu,gn,ag,aW,bp,r4]
      simp only[tV,List.length_cons,an]
      simp only[nE,ar,Cb,ew]
theorem OH{h:J}{pT u:TypeId}{c e:Nat}{w:List UInt8}{rest:List I}(hw:w≠[])(ar:w.length<=100000000000)(hu:P.underlying pT=some (.pointer u))(he:P.underlyingId e=P.underlyingId u)(ad:cQ P e=some 1)(an:h.get c=some (.cells (cU w++rest) e .aH 0 0)):
  oI P h pT (.ptr c 0) (.int .i64 (Int.ofNat w.length))=some (.str w,h.set c (some (.cells (cU w++rest) e .fz 0 0))):=by
 have aC:w.length≠0:=by cases w<;>simp at hw⊢
 have bk:takeN w.length (hQ 0 (cU w++rest))=some (cU w):=by
  have:=y1 (cU w) rest
  rw[r7] at this;exact this
 have hle:Nat.ble w.length 281474976710656=true:=by simp;omega
 simp only[oI,eT,if_neg aC,hu,an,he,ad,hle,bk,Ce]
 simp
end
section
variable {D:Type}
def iL(f:Nat->D)(i:Nat)(v:D):Nat->D:=λj=>if j=i then v else f j
def r8(enc:D->List I)(f:Nat->D):Nat->List I
 |0=>[]
 |n+1=>r8 enc f n++enc (f n)
variable {enc:D->List I} {w:Nat}
theorem Cg:∀(l m:List I) (n:Nat),l.length=n->takeN n (l++m)=some l
 |l,m,n,h=>by subst h;exact y1 l m
theorem G3:∀(l m:List I),hQ l.length (l++m)=m
 |[],m=>by cases m<;>rfl
 |a::l,m=>by simp[hQ,G3 l m]
end
theorem wrap_u64(n:Nat)(h:n<18446744073709551616):IntKind.wrap .u64 (n:Int)=(n:Int):=by
 have e:((n:Int) %18446744073709551616)=n:=by omega
 have au:(2:Int)^64=18446744073709551616:=by rfl
 simp only[IntKind.wrap,IntKind.bits,IntKind.signed,au,e,Bool.false_and,if_neg Bool.false_ne_true]
theorem OI{i j:Nat}(h:i+j<18446744073709551616):arith BinOp.add IntKind.u64 (Int.ofNat i) (Int.ofNat j)=some (I.int IntKind.u64 (Int.ofNat (i+j))):=by
 have h:=wrap_u64 (i+j) h
 have e:Int.ofNat i+Int.ofNat j=((i+j:Nat):Int):=rfl
 simp only[arith,e,h];rfl
theorem OJ{i j:Nat}(aG:j<=i)(h:i<18446744073709551616):arith BinOp.sub IntKind.u64 (Int.ofNat i) (Int.ofNat j)=some (I.int IntKind.u64 (Int.ofNat (i-j))):=by
 have h:=wrap_u64 (i-j) (by omega)
 have e:Int.ofNat i-Int.ofNat j=((i-j:Nat):Int):=by
  have av:Int.ofNat i=(i:Int):=rfl
  have au:Int.ofNat j=(j:Int):=rfl
  rw[av,au];omega
 simp only[arith,e,h];rfl
theorem G4(k:IntKind){i j:Nat}(aG:0<j):arith BinOp.rem k (Int.ofNat i) (Int.ofNat j)=some (I.int k (Int.ofNat (i %j))):=by
 have e:(Int.ofNat i).tmod (Int.ofNat j)=((i %j:Nat):Int):=rfl
 have b9:¬(Int.ofNat j=0):=by
  have av:Int.ofNat j=(j:Int):=rfl
  rw[av];omega
 simp only[arith,if_neg b9,e];rfl
section
variable {P:Program}
theorem G5:∀(n:Nat) (z:I),fN n [z]=List.replicate n z
 |0,z=>rfl
 |n+1,z=>by rw[fN,G5 n z,List.singleton_append,List.replicate_succ]
end
theorem OK{a b:Nat}(h:a=b):dP (Int.ofNat a) (Int.ofNat b)=true:=by subst h;simp[dP]
theorem OL{a b:Nat}(h:¬a=b):dP (Int.ofNat a) (Int.ofNat b)=false:=by
 cases U:dP (Int.ofNat a) (Int.ofNat b) with
 |false=>rfl
 |true=>simp[dP] at U;omega
structure mF(p B:Nat)(h ah:J):Prop where
 n:h.n<=ah.n
 get:∀b,b<B->b≠p->ah.get b=h.get b
theorem mF.trans{p B lj:Nat}{h h1 aa:J}(dX:B<=lj)(e:mF p B h h1)(cw:mF p lj h1 aa):mF p B h aa:=⟨Nat.le_trans e.n cw.n,λb ae a8=>(cw.get b (Nat.lt_of_lt_of_le ae dX) a8).trans (e.get b ae a8)⟩
theorem mF.XE{p B:Nat}{h ah:J}(e:mF p B h ah)(a8:B<=p):Ext B h ah:=⟨e.n,λb ae=>e.get b ae (by omega)⟩
theorem Ext.le{B lj:Nat}{h ah:J}(e:Ext lj h ah)(dX:B<=lj):Ext B h ah:=⟨e.n,λb ae=>e.get b (by omega)⟩
theorem c8{h:J}{o:b8}{b:Nat}(ae:b=h.n):(h.push o).get b=some o:=by subst ae;rw[J.gC,if_pos rfl]
theorem ch{h:J}{o:b8}{b:Nat}{x:Option b8}(ae:b<h.n)(U:h.get b=x):(h.push o).get b=x:=by rw[J.gC,if_neg (by omega)];exact U
theorem e8{h:J}{o:b8}{b c:Nat}(ae:b=c):(h.set c (some o)).get b=some o:=by subst ae;rw[J.cL,if_pos rfl]
theorem c9{h:J}{b c:Nat}{o x:Option b8}(ae:¬b=c)(U:h.get b=x):(h.set c o).get b=x:=by rw[J.cL,if_neg ae];exact U
theorem ld1{h:J}{b off:Nat}{cs:List I}{e bB up:Nat}{k:e3}{v:I}(an:h.get b=some (.cells cs e k bB up))(aC:nth off cs=some v):aO h b off=some v:=by simp only[aO,an,aC]
theorem ih{h:J}{b off m:Nat}{cs vs:List I}{e bB up:Nat}{k:e3}(an:h.get b=some (.cells cs e k bB up))(aC:takeN m (hQ off cs)=some vs):aS.loadCells h b off m=some vs:=by simp only[aS.loadCells,an,aC]
theorem gI{h:J}{b off:Nat}{xs cs bC:List I}{e bB up:Nat}{k:e3}(an:h.get b=some (.cells cs e k bB up))(hw:jm k bB up off xs.length=true)(a8:putCells off xs cs=some bC):aS.storeCells h b off xs=some (h.set b (some (.cells bC e k bB up))):=by simp only[aS.storeCells,an,hw,a8]
theorem Ext.l3{B b:Nat}{h g:J}{o:Option b8}(ae:B<=b)(e:Ext B h g):Ext B h (g.set b o):=e.trans (Nat.le_refl _) (Ext.set ae _)
theorem Ext.qt{B:Nat}{h g:J}{o:b8}(dX:B<=g.n)(e:Ext B h g):Ext B h (g.push o):=e.trans (Nat.le_refl _) (Ext.push dX _)
theorem OM(a b:Int):arith BinOp.sub IntKind.i64 a b=some (I.int IntKind.i64 (IntKind.i64.wrap (a-b))):=rfl
theorem ON{P:Program}{t e:TypeId}{n b:Nat}{i:TypeInfo}(hu:P.underlying t=some (.slice e))(ag:P.info? e=some i)(bp:i.size=1)(kB:i.bytes=1)(aW:ek P e=some (.int .u8 (Int.ofNat 0)))(hle:n<=1000000):
  ob P t (.int .i64 (Int.ofNat n)) (.int .i64 (Int.ofNat n)) b=some (.slice b 0 n (.exact n),.cells (cU (List.replicate n 0)) e .own 0 0):=by
 have h1:(decide (n<=n)&&Nat.ble (n*(i.bytes+1)) 1099511627776&&Nat.beq (I.cells (.int .u8 (Int.ofNat 0))).length i.size)=true:=by
  rw[kB,bp]
  have:n*(1+1)<=1099511627776:=by omega
  simp[I.cells,this]
 have aI:fN n (I.cells (.int .u8 (Int.ofNat 0)))=List.replicate n (I.int .u8 (Int.ofNat 0)):=G5 n _
 have bl:∀n,cU (List.replicate n 0)=List.replicate n (I.int .u8 (Int.ofNat 0)):=by
  intro n
  induction n with
  |zero=>rfl
  |succ n bc=>rw[List.replicate_succ,cU,bc,List.replicate_succ];rfl
 have ao:(List.replicate n (I.int .u8 (Int.ofNat 0))).all I.ca=true:=by
  simp[List.all_replicate,I.ca]
 have cg:(if n*i.size=0 then[] else List.replicate n (I.int .u8 (Int.ofNat 0)))=List.replicate n (I.int .u8 (Int.ofNat 0)):=by
  rw[bp]
  by_cases aA:n*1=0
  · rw[if_pos aA]
    have:n=0:=by omega
    subst this;rfl
  · rw[if_neg aA]
 unfold ob
 simp only[hu,eT,ag,aW,h1,aI,cg,ao,bl]
end aS
