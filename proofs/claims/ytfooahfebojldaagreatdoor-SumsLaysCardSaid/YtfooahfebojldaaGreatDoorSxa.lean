/-
  PROVED HERE: symbolic runs of the evaluator, and that they are sound (Sxa). No condition beside each statement's own.
-/
import Derived.Test.YtfooahfebojldaaGreatDoorAed
set_option linter.unusedVariables false
set_option linter.unusedSimpArgs false
namespace aD
open Go
abbrev Env:=List (Nat×I)
def fh(t:Nat):Env->Option I
 |[]=>none
 |(u,v)::l=>match Nat.beq t u with
  |true=>some v
  |false=>fh t l
def del(t:Nat):Env->Env
 |[]=>[]
 |(u,v)::l=>match Nat.beq t u with
  |true=>del t l
  |false=>(u,v)::del t l
def put(t:Nat)(v:I)(Γ:Env):Env:=(t,v)::del t Γ
def ml(Γ:Env):List Nat->Env
 |[]=>[]
 |t::l=>match fh t Γ with
  |some v=>(t,v)::ml Γ l
  |none=>ml Γ l
def Mod(r:aT)(Γ:Env):Prop:=∀t v,fh t Γ=some v->r.get (gO t)=v
structure ag where
 Γ:Env
 d:List b1
 q:bJ
 h:J
inductive Hint where
 |v (v:I)
 |ih (v:I) (h:J)
 |c (v:I) (h:J)
 |p (v:I) (h:J)
 |b (b:Bool)
 |loop (e:bF) (st:ag)
 |Qk (v:I) (o:cx)
 |o (v:I)
 |C4
def er:List Prop->Prop
 |[]=>True
 |p::l=>p/\er l
theorem er.cons{p:Prop}{l:List Prop}(h:p)(t:er l):er (p::l):=⟨h,t⟩
theorem er.nil:er []:=trivial
theorem er.append:∀{l m:List Prop},er (l++m)->er l/\er m
 |[],m,h=>⟨trivial,h⟩
 |p::l,m,h=>⟨⟨h.1,(er.append h.2).1⟩,(er.append h.2).2⟩
def m9(m:Nat)(env:List I)(Γ:Env):Acc->Option I
 |.env j=>nth (m-1-j) env
 |.reg p=>fh p.num Γ
 |.val v=>some v
def C5(o:Oper)(g:Operand->I):Nat:=match o.op with
 |.load .. |.slice .. |.index .. |.indexAddr .. |.lookup .. |.entry .. =>1
 |.binOp op _ x y _=>match op,g x,g y with
  |.eql,.int _ _,.int _ _|.neq,.int _ _,.int _ _|.lss,.int _ _,.int _ _|.leq,.int _ _,.int _ _|.gtr,.int _ _,.int _ _|.geq,.int _ _,.int _ _=>0
  |.eql,.str _,.str _|.neq,.str _,.str _|.lss,.str _,.str _|.leq,.str _,.str _|.gtr,.str _,.str _|.geq,.str _,.str _=>0
  |_,_,_=>1
 |.unOp op _ _=>match op with
  |.not=>0
  |_=>1
 |.convert _ _ x=>match g x with
  |.str _=>2
  |_=>1
 |.range _ x=>match g x with
  |.map _=>2
  |_=>0
 |.store .. |.mapUpdate .. |.mapEntry .. |.entryStore .. |.insert .. |.next .. |.makeSlice .. =>2
 |.call c=>match c.callee with
  |.builtin b=>match b with
   |.len=>match c.args.toList.map g with
    |[.map _]=>1
    |_=>0
   |.cap|.min|.max|.unsafeSliceData=>1
   |.append|.copy|.clear|.delete|.unsafeString=>2
   |_=>0
  |_=>0
 |_=>0
def gB(n:Nat)(s:List UInt8):Option I:=match nth n s with
 |some b=>some (.int .u8 (Int.ofNat b.toNat))
 |none=>none
def nO(P:Program)(o:Oper)(g:Operand->I)(h:J)(v:I):Prop:=match o.op with
 |.load t a=>match g a,l4 P t,dt P t with
  |.ptr b off,some false,some _=>aq h b off=some v
  |.ptr b off,some true,some n=>match v with
   |.agg cs=>loadCells h b off n=some cs
   |_=>False
  |_,_,_=>False
 |.binOp op t x y _=>match g x,g y with
  |.int k a,.int dA b=>match op with
   |.shl=>mP .shl k a b=some v
   |.shr=>mP .shr k a b=some v
   |op=>match decide (k=dA) with
    |true=>arith op k a b=some v
    |false=>False
  |.str a,.str b=>eQ op a b=some v
  |a,b=>c7 P h op t x y a b=some v
 |.slice t x bf ae mx=>fM P h t (g x) (bf.map g) (ae.map g) (mx.map g)=some v
 |.index t x i=>match P.underlying t,g x,fB (g i) with
  |some .string,.str s,some n=>gB n s=some v
  |some (.array m e),.agg cs,some n=>match dt P e with
   |some sz=>n<m/\kO P e cs (n*sz)=some v
   |none=>False
  |_,_,_=>False
 |.indexAddr t x i=>match P.underlying t,g x,fB (g i) with
  |some (.array m e),.ptr b off,some n=>match dt P e with
   |some sz=>n<m/\v=.ptr b (off+n*sz)
   |none=>False
  |some (.slice e),.slice b off m c,some n=>match dt P e with
   |some sz=>n<m/\v=.ptr b (off+n*sz)
   |none=>False
  |_,_,_=>False
 |.lookup t x i ok=>yC P h t (g x) (g i) ok=some v
 |.entry it=>yI h (g it)=some v
 |.unOp op _ x=>match op,g x with
  |.neg,.int k n=>v=.int k (k.wrap (0-n))
  |.xor,.int k n=>arith .xor k (if k.signed then-1 else k.max) n=some v
  |_,_=>False
 |.convert src dst x=>eR P src dst (g x) h=.val v h
 |.call c=>match c.callee,c.args.toList.map g,c.argTypes[0]? with
  |.builtin .len,[x],some t=>bU P h t x=some v
  |.builtin .cap,[x],some t=>yx P t x=some v
  |.builtin .min,x::l,_=>jh kt x l=some v
  |.builtin .max,x::l,_=>jh vC x l=some v
  |.builtin .unsafeSliceData,[x],some t=>hZ P .unsafeSliceData #[t] [x] h=.val v h
  |_,_,_=>False
 |_=>False
def uq(P:Program)(h:J)(t:TypeId)(l c:I):Option (I×J):=match P.underlying t,fB l,fB c with
 |some (.slice e),some l,some c=>match P.info? e,ew P e with
  |some i,some z=>if l<=c&&Nat.ble (c*(i.bytes+1)) 1099511627776&&Nat.beq z.cells.length i.size then(match newRow h e (if c*i.size=0 then[] else eT c z.cells) with
   |some (b,al)=>some (.slice b 0 l (.exact c),al)
   |none=>none) else none
  |_,_=>none
 |_,_,_=>none
def Il(h:J):I->Option (I×J)
 |.map m=>match h.get m with
  |some (.map _ c)=>some (.ptr h.n 0,h.push (.mapIter (some m) c [] c))
  |_=>none
 |_=>none
def ur(P:Program)(o:Oper)(g:Operand->I)(h:J)(v:I)(al:J):Prop:=match o.op with
 |.store t a x=>match g a with
  |.ptr b off=>dt P t=some (g x).cells.length/\storeCells h b off (g x).cells=some al/\v=.aW []
  |_=>False
 |.convert src dst x=>eR P src dst (g x) h=.val v al
 |.mapUpdate t m k x=>tM P h t (g m) (g k) (g x)=some al/\v=.aW []
 |.insert t m k x=>tM P h t (g m) (g k) (g x)=some al/\v=.aW []
 |.mapEntry t m k=>yD P h t (g m) (g k)=some (v,al)
 |.entryStore t m s x=>yE h (g m) (g s) (g x)=some al/\v=.aW []
 |.next it isStr=>yG h (g it) isStr=some (v,al)
 |.range t x=>match P.underlying t with
  |some (.map _ _)=>Il h (g x)=some (v,al)
  |_=>False
 |.makeSlice t l c=>uq P h t (g l) (g c)=some (v,al)
 |.call c=>match c.callee,c.args.toList.map g,c.argTypes[0]? with
  |.builtin .append,[x,y],some t=>gZ P h t c.argTypes[1]? x y=some (v,al)
  |.builtin .copy,[x,y],some t=>yy P h t x y=some (v,al)
  |.builtin .clear,[x],some t=>om P h t x=some (v,al)
  |.builtin .delete,[x,y],some t=>yF P h t x y=some (v,al)
  |.builtin .unsafeString,[x,y],some t=>pk P h t x y=some (v,al)
  |_,_,_=>False
 |_=>False
inductive mm where
 |ok (v:I) (d:List b1) (q:bJ) (h:J)
 |b9 (v:I) (d:List b1) (q:bJ) (h:J)
def mm.res:mm->vJ
 |.ok v d q h=>.ok v d q h
 |.b9 v d q h=>.b9 v d q h
inductive kB(α:Type 1) where
 |cO (a:α)
 |stop (iy:String) (x:Option Bool)
structure gT(α:Type):Type 1 where
 res:α
 cs:List Prop
 hs:List Hint
structure Ql(l:List I):Prop where
 h:l.all I.bY=true
def zG(call:ay->List I->J->an)(pos:String)(f:ay)(args:List I)(d:List b1)(q:bJ)(h:J):List Hint->kB (gT mm)
 |.c v al::hs=>.cO ⟨.ok v d q al,[call f args h=.ret v al],hs⟩
 |.p v al::hs=>.cO ⟨.b9 v d q al,[call f args h=.b9 v al],hs⟩
 |_=>.stop ("call " ++pos) none
def Qm(P:Program)(o:Oper):Bool:=match o.op with
 |.call c=>match c.callee with
  |.builtin b=>match b with
   |.len=>true
   |_=>false
  |_=>false
 |.binOp op t _ _ _=>match op with
  |.eql|.neq=>match P.underlying t with
   |some (.int _)=>false
   |some .string=>false
   |some .bool=>false
   |some _=>true
   |none=>false
  |_=>false
 |_=>false
def Qn(P:Program)(o:Oper):List Hint->Option (I×List Hint)
 |.o v::hs=>match Qm P o with
  |true=>some (v,hs)
  |false=>none
 |_=>none
def Im(o:Oper):List Hint->Option (TypeId×Operand×List Hint)
 |.C4::hs=>match o.op with
  |.box e x=>some (e,x,hs)
  |_=>none
 |_=>none
def C6(P:Program)(inR:Bool)(call:ay->List I->J->an)(o:Oper)(g:Operand->I)(d:List b1)(q:bJ)(h:J)(hs:List Hint):kB (gT mm):=
 match Qn P o hs with
 |some (v,hs)=>.cO ⟨.ok v d q h,[nO P o g h v],hs⟩
 |none=>match Im o hs with
  |some (e,x,hs)=>.cO ⟨.ok (.ptr h.n 0) d q (h.push (.cells (g x).cells e .own 0 0)),[Ql (g x).cells],hs⟩
  |none=>match C5 o g with
   |0=>match cM P o g h with
    |.val v al=>.cO ⟨.ok v d q al,[],hs⟩
    |.b9 v al=>.cO ⟨.b9 v d q al,[],hs⟩
    |.call f args al=>zG call o.pos (.fn f) args d q al hs
    |.cc l args al=>zG call o.pos (.cc l) args d q al hs
    |.jG x=>match inR with
     |true=>.stop "defer" none
     |false=>.cO ⟨.ok (.aW []) (x::d) q h,[],hs⟩
    |.rQ=>match inR with
     |true=>.stop "recover" none
     |false=>match q with
      |.none=>.cO ⟨.ok .eO d .none h,[],hs⟩
      |.done v=>.cO ⟨.ok .eO d (.done v) h,[],hs⟩
      |.act v=>.cO ⟨.ok v d (.done v) h,[],hs⟩
    |.fail w=>.stop (w++ " " ++o.pos) none
   |1=>match hs with
    |.v v::hs=>.cO ⟨.ok v d q h,[nO P o g h v],hs⟩
    |_=>.stop ("value " ++o.pos) none
   |_=>match hs with
    |.ih v al::hs=>.cO ⟨.ok v d q al,[ur P o g h v al],hs⟩
    |_=>.stop ("value and memory " ++o.pos) none
def C7(o:Oper)(g:Operand->I)(d:List b1)(q:bJ)(h:J)(hs:List Hint):Option (kB (gT mm)):=match o.op with
 |.pick c a b=>match g c with
  |.bool x=>match hs with
   |.b true::hs=>some (.cO ⟨.ok (g a) d q h,[x=true],hs⟩)
   |.b false::hs=>some (.cO ⟨.ok (g b) d q h,[x=false],hs⟩)
   |_=>some (.stop ("pick " ++o.pos) (some x))
  |_=>some (.stop ("pick of what " ++o.pos) none)
 |_=>none
def zH(P:Program)(inR:Bool)(call:ay->List I->J->an)(o:Oper)(g:Operand->I)(d:List b1)(q:bJ)(h:J)(hs:List Hint):kB (gT mm):=match C7 o g d q h hs with
 |some r=>r
 |none=>C6 P inR call o g d q h hs
def uu(P:Program)(inR:Bool)(call:ay->List I->J->an)(gd:Option (I×Bool))(o:Oper)(g:Operand->I)(d:List b1)(q:bJ)(h:J)(hs:List Hint):kB (gT mm):=
 match gd with
 |none=>zH P inR call o g d q h hs
 |some (.bool x,b)=>match hs with
  |.b c::hs=>match c==b with
   |true=>match zH P inR call o g d q h hs with
    |.cO ⟨s,cs,hs⟩=>.cO ⟨s,(x=c)::cs,hs⟩
    |.stop w x=>.stop w x
   |false=>.cO ⟨.ok (.aW []) d q h,[x=c],hs⟩
  |_=>.stop ("guard " ++o.pos) (some x)
 |some (.aW [],_)=>.cO ⟨.ok (.aW []) d q h,[],hs⟩
 |_=>.stop ("guard of what " ++o.pos) none
def uv(P:Program)(need m:Nat)(env:List I)(Γ:Env)(loc:List (Nat×Acc))(o:Oper):Bool:=o.op.operands.toList.all λx=>(m9 m env Γ (cT P need loc x)).isSome
def kC(P:Program)(need m:Nat)(env:List I)(Γ:Env)(loc:List (Nat×Acc))(x:Operand):I:=(m9 m env Γ (cT P need loc x)).getD .bad
def Io(env:List I)(Γ:Env)(s:Step):Option (Option (I×Bool)):=match s.guard with
 |none=>some none
 |some (a,b)=>match m9 s.m env Γ a with
  |some v=>some (some (v,b))
  |none=>none
def zI(P:Program)(need:Nat)(inR:Bool)(call:ay->List I->J->an)(Γ:Env):List Step->List I->List b1->bJ->J->List Hint->kB (gT l5)
 |[],env,d,q,h,hs=>.cO ⟨.ok env d q h,[],hs⟩
 |s::rest,env,d,q,h,hs=>
  match uv P need s.m env Γ s.loc s.o with
  |false=>.stop ("an operand " ++s.o.pos) none
  |true=>
   match Io env Γ s with
   |none=>.stop ("guard " ++s.o.pos) none
   |some gd=>match uu P inR call gd s.o (kC P need s.m env Γ s.loc) d q h hs with
    |.cO ⟨.ok v bG bP al,cs,dx⟩=>match zI P need inR call Γ rest (v::env) bG bP al dx with
     |.cO ⟨x,b6,sC⟩=>.cO ⟨x,cs++b6,sC⟩
     |.stop w x=>.stop w x
    |.cO ⟨.b9 v bG bP al,cs,dx⟩=>.cO ⟨.b9 v bG bP al,cs,dx⟩
    |.stop w x=>.stop w x
def sD(need m:Nat)(env:List I)(fl:Env):List (Nat×Acc)->Env->Env
 |[],Γ=>Γ
 |(t,a)::l,Γ=>
  match Nat.testBit need t with
  |true=>match m9 m env fl a with
   |some v=>put t v (sD need m env fl l Γ)
   |none=>del t (sD need m env fl l Γ)
  |false=>sD need m env fl l Γ
def zJ:List (Nat×Acc)->Env->Env
 |[],Γ=>Γ
 |(t,_)::l,Γ=>del t (zJ l Γ)
def J.room(h:J)(k:Nat):J:=⟨h.t,h.n+k⟩
@[simp] theorem J.aal (h:J) (k b:Nat):(h.room k).get b=h.get b:=rfl
@[simp] theorem J.aam (h:J) (k:Nat):(h.room k).n=h.n+k:=rfl
abbrev m_:=List (Nat×Nat×J)
structure jr where
 env:List I
 d:List b1
 q:bJ
 h:J
 a9:m_
def wW(P:Program)(need:Nat)(ops:Array Oper)(n:Nat)(env:List I)(Γ:Env)(s:DStep):Option (Option (I×Bool)):=match jI P need ops s.loc s.o with
 |none=>some none
 |some (a,b)=>match m9 n env Γ a with
  |some v=>some (some (v,b))
  |none=>none
def sE(s:DStep):m_->Bool
 |[]=>true
 |(e,_,_)::_=>Nat.testBit s.eU e
def Ip(P:Program)(t:TypeId)(l c:I)(b:Nat):Option (I×cx):=match P.underlying t,fB l,fB c with
 |some (.slice e),some l,some c=>match P.info? e,ew P e with
  |some i,some z=>match decide (l<=c)&&Nat.ble (c*(i.bytes+1)) 1099511627776&&Nat.beq z.cells.length i.size,(if c*i.size=0 then[] else eT c z.cells) with
   |true,cs=>match cs.all I.bY with
    |true=>some (.slice b 0 l (.exact c),.cells cs e .own 0 0)
    |false=>none
   |_,_=>none
  |_,_=>none
 |_,_,_=>none
def Iq(P:Program)(op:Op)(g:Operand->I)(b:Nat)(v:I)(o:cx):Prop:=match op with
 |.makeSlice t l c=>Ip P t (g l) (g c) b=some (v,o)
 |_=>False
theorem Ir{P:Program}{op:Op}{g:Operand->I}{b:Nat}{v:I}{o:cx}(h:Iq P op g b v o):jL P op g b=some (v,o):=by
 cases op<;>first|exact h|exact absurd h id
def Is(P:Program)(gd:Option (I×Bool))(s:DStep)(g:Operand->I)(b:Nat)(st:jr)(hs:List Hint):kB (gT jr):=
 match gd with
 |none=>match hs with
  |.Qk v o::hs=>.cO ⟨⟨v::st.env,st.d,st.q,st.h.set b (some o),st.a9⟩,[Iq P s.o.op g b v o],hs⟩
  |hs=>match jL P s.o.op g b with
   |some (v,o)=>.cO ⟨⟨v::st.env,st.d,st.q,st.h.set b (some o),st.a9⟩,[],hs⟩
   |none=>.stop ("alloc " ++s.o.pos) none
 |some (.bool x,c)=>match hs with
  |.b y::hs=>match y==c with
   |true=>match jL P s.o.op g b with
    |some (v,o)=>.cO ⟨⟨v::st.env,st.d,st.q,st.h.set b (some o),st.a9⟩,[x=y],hs⟩
    |none=>.stop ("alloc " ++s.o.pos) none
   |false=>.cO ⟨⟨.aW []::st.env,st.d,st.q,st.h,st.a9⟩,[x=y],hs⟩
  |_=>.stop ("guard " ++s.o.pos) (some x)
 |some (.aW [],_)=>.cO ⟨⟨.aW []::st.env,st.d,st.q,st.h,st.a9⟩,[],hs⟩
 |_=>.stop ("guard of what " ++s.o.pos) none
def zK(P:Program)(need:Nat)(inR:Bool)(call:ay->List I->J->an)(ops:Array Oper)(Γ:Env)(cP:Nat)(s:DStep)(st:jr)(hs:List Hint):kB (gT jr):=
 match uv P need s.i st.env Γ s.loc s.o with
 |false=>.stop ("an operand " ++s.o.pos) none
 |true=>match wW P need ops s.i st.env Γ s with
  |none=>.stop ("guard " ++s.o.pos) none
  |some gd=>match kindOf P s.o.op with
   |.alloc=>Is P gd s (kC P need s.i st.env Γ s.loc) (cP+s.i) st hs
   |.pure=>match uu P inR call gd s.o (kC P need s.i st.env Γ s.loc) st.d st.q st.h hs with
    |.cO ⟨.ok v _ _ _,cs,dx⟩=>.cO ⟨⟨v::st.env,st.d,st.q,st.h,st.a9⟩,cs,dx⟩
    |.cO ⟨.b9 _ _ _ _,_,_⟩=>.stop ("a panic " ++s.o.pos) none
    |.stop w x=>.stop w x
   |.eg=>match sE s st.a9 with
    |false=>.stop ("order " ++s.o.pos) none
    |true=>match uu P inR call gd s.o (kC P need s.i st.env Γ s.loc) st.d st.q st.h hs with
     |.cO ⟨.ok v bG bP al,cs,dx⟩=>.cO ⟨⟨v::st.env,bG,bP,al,(s.i,s.eU,st.h)::st.a9⟩,cs,dx⟩
     |.cO ⟨.b9 _ _ _ _,_,_⟩=>.stop ("a panic " ++s.o.pos) none
     |.stop w x=>.stop w x
def zL(P:Program)(need:Nat)(inR:Bool)(call:ay->List I->J->an)(ops:Array Oper)(Γ:Env)(cP:Nat):List DStep->jr->List Hint->kB (gT jr)
 |[],st,hs=>.cO ⟨st,[],hs⟩
 |s::rest,st,hs=>match zK P need inR call ops Γ cP s st hs with
  |.cO ⟨cj,cs,dx⟩=>match zL P need inR call ops Γ cP rest cj dx with
   |.cO ⟨y,b6,sC⟩=>.cO ⟨y,cs++b6,sC⟩
   |.stop w x=>.stop w x
  |.stop w x=>.stop w x
def C8(P:Program)(need:Nat)(inR:Bool)(call:ay->List I->J->an)(ops:Array Oper)(Γ:Env)(s:DStep)(rest:List DStep)(st:jr)(hs:List Hint):kB (gT (I×jr)):=
 match uv P need s.i st.env Γ s.loc s.o with
 |false=>.stop ("an operand " ++s.o.pos) none
 |true=>match wW P need ops s.i st.env Γ s with
  |none=>.stop ("guard " ++s.o.pos) none
  |some gd=>match kindOf P s.o.op with
   |.eg=>match sE s st.a9 with
    |false=>.stop ("order " ++s.o.pos) none
    |true=>match uu P inR call gd s.o (kC P need s.i st.env Γ s.loc) st.d st.q st.h hs with
     |.cO ⟨.b9 v bG bP al,cs,dx⟩=>match rest.all (λbM=>Nat.testBit bM.eU s.i) with
      |true=>.cO ⟨(v,⟨st.env,bG,bP,al,(s.i,s.eU,st.h)::st.a9⟩),cs,dx⟩
      |false=>.stop ("panic " ++s.o.pos) none
     |_=>.stop ("no panic " ++s.o.pos) none
   |_=>.stop ("no panic " ++s.o.pos) none
def zM(P:Program)(need:Nat)(inR:Bool)(call:ay->List I->J->an)(ops:Array Oper)(Γ:Env)(cP:Nat):List DStep->jr->List Hint->kB (gT (I×jr))
 |[],_,_=>.stop "no panic" none
 |s::rest,st,hs=>match C8 P need inR call ops Γ s rest st hs with
  |.cO y=>.cO y
  |.stop _ _=>match zK P need inR call ops Γ cP s st hs with
   |.cO ⟨cj,cs,dx⟩=>match zM P need inR call ops Γ cP rest cj dx with
    |.cO ⟨y,b6,sC⟩=>.cO ⟨y,cs++b6,sC⟩
    |.stop w x=>.stop w x
   |.stop w x=>.stop w x
mutual
def I.sound:I->Bool
 |.bad=>false
 |.fn _ a b=>iU a&&iU b
 |.iface _ v=>v.sound
 |.agg l=>iU l
 |.aW l=>iU l
 |_=>true
def iU:List I->Bool
 |[]=>true
 |a::l=>a.sound&&iU l
end
def It(o:Oper)(g:Operand->I):Option (Bool×I×I):=match o.op with
 |.pick c a b=>match g c with
  |.bool x=>some (x,g a,g b)
  |_=>none
 |_=>none
def isLen(o:Oper):Bool:=match o.op with
 |.call c=>match c.callee with
  |.builtin .len=>true
  |_=>false
 |_=>false
def wX(P:Program)(o:Oper)(g:Operand->I)(h:J)(v:I):List Prop:=match It o g with
 |some (x,a,b)=>[v.sound=true,cond x a b=v]
 |none=>match isLen o with
  |true=>[v.sound=true,nO P o g h v]
  |false=>match C5 o g with
   |1=>[v.sound=true,nO P o g h v]
   |_=>match cM P o g h with
    |.val v' _=>[v.sound=true,v'=v]
    |_=>[False]
def lookW(v:I)(q p:Prop):Prop:=match v with
 |.aW []=>q
 |_=>p
def C9(P:Program)(need:Nat)(ops:Array Oper)(Γ:Env)(n:Nat)(env:List I)(s:DStep)(v:I)(h:J):List Prop:=
 match uv P need n env Γ s.loc s.o,wW P need ops n env Γ s with
 |true,some gd=>match gd with
  |none=>wX P s.o (kC P need n env Γ s.loc) h v
  |some (.bool x,b)=>[lookW v ((x==b)=false) (er (wX P s.o (kC P need n env Γ s.loc) h v))]
  |some (.aW [],_)=>[]
  |_=>[False]
 |_,_=>[False]
def pN(s:DStep)(dX:Option Nat)(a9:m_):Bool:=(match dX with|none=>false|some e=>Nat.testBit s.eU e)||(match a9 with|[]=>false|(_,m,_)::_=>Nat.testBit m s.i)
def uw(P:Program)(need:Nat)(ops:Array Oper)(Γ:Env)(n:Nat)(env:List I)(s:DStep)(v:I):Option Nat->J->m_->List Prop
 |dX,h,a9=>
  (match pN s dX a9 with
   |true=>[]
   |false=>C9 P need ops Γ n env s v h)++
  (match a9 with
   |[]=>[]
   |(e,_,al)::rest=>uw P need ops Γ n env s v (some e) al rest)
def zN(P:Program)(need:Nat)(ops:Array Oper)(Γ:Env)(n:Nat)(env:List I)(h:J)(a9:m_):List DStep->List Prop
 |[]=>[]
 |s::rest=>(match Nat.blt s.i n,kindOf P s.o.op with
   |true,.pure=>uw P need ops Γ n env s ((nth (n-1-s.i) env).getD .bad) none h a9
   |_,_=>[])++zN P need ops Γ n env h a9 rest
def zO(P:Program)(need:Nat)(ops:Array Oper)(Γ:Env)(n:Nat)(env:List I)(last:Option Nat)(h:J)(a9:m_):List DStep->List Prop
 |[]=>[]
 |s::rest=>(match Nat.blt s.i n,kindOf P s.o.op with
   |true,.pure=>uw P need ops Γ n env s ((nth (n-1-s.i) env).getD .bad) last h a9
   |_,_=>[])++zO P need ops Γ n env last h a9 rest
def C_(P:Program)(need:Nat)(inR:Bool)(call:ay->List I->J->an)(ops:Array Oper)(st:ag)(hs:List Hint):kB (gT (bF×ag)):=
 match zM P need inR call ops st.Γ st.h.n (e1 ops.toList 0 [] []) ⟨[],st.d,st.q,st.h.room ops.size,[]⟩ hs with
 |.cO ⟨(v,⟨env,d,q,h,(e,m,h0)::a9⟩),cs,dx⟩=>.cO ⟨(.b9 v,⟨zJ (ib ops.toList 0 []) st.Γ,d,q,h⟩),cs++zO P need ops st.Γ env.length env (some e) h0 a9 (e1 ops.toList 0 [] []),dx⟩
 |.cO _=>.stop "no panic" none
 |.stop w x=>.stop w x
def Da(P:Program)(need:Nat)(inR:Bool)(call:ay->List I->J->an)(ops:Array Oper)(st:ag)(hs:List Hint):kB (gT (bF×ag)):=
 match zL P need inR call ops st.Γ st.h.n (e1 ops.toList 0 [] []) ⟨[],st.d,st.q,st.h.room ops.size,[]⟩ hs with
 |.cO ⟨⟨env,d,q,h,a9⟩,cs,dx⟩=>.cO ⟨(.nrm,⟨sD need env.length env st.Γ (ib ops.toList 0 []) st.Γ,d,q,h⟩),cs++zN P need ops st.Γ env.length env h a9 (e1 ops.toList 0 [] []),dx⟩
 |.stop _ _=>C_ P need inR call ops st hs
def ck(P:Program)(need:Nat)(rd:Option Nat)(call:ay->List I->J->an)(c:Code)(st:ag)(e:bF)(cj:ag):Prop:=
 ∀r,Mod r st.Γ->∃r',dG P need rd call c r st.d st.q st.h=.ok e r' cj.d cj.q cj.h/\Mod r' cj.Γ
def Qo(need:Nat)(Γ:Env)(loc:List (Nat×Acc)):l5->Option (bF×ag)
 |.ok env d q h=>some (.nrm,⟨sD need env.length env Γ loc Γ,d,q,h⟩)
 |.b9 v d q h=>some (.b9 v,⟨zJ loc Γ,d,q,h⟩)
 |.fail _=>none
def k2(P:Program)(need:Nat)(rd:Option Nat)(call:ay->List I->J->an):Code->ag->List Hint->kB (gT (bF×ag))
 |.skip,st,hs=>.cO ⟨(.nrm,st),[],hs⟩
 |.label _,st,hs=>.cO ⟨(.nrm,st),[],hs⟩
 |.exit id,st,hs=>.cO ⟨(.exit id,st),[],hs⟩
 |.ret,st,hs=>.cO ⟨(.ret,st),[],hs⟩
 |.scope b,st,hs=>k2 P need rd call b st hs
 |.region id ops draw,st,hs=>
  match draw with
  |false=>
   match zI P need rd.isSome call st.Γ (ou P need ops).steps [] st.d st.q st.h hs with
   |.cO ⟨x,cs,dx⟩=>match Qo need st.Γ (ou P need ops).loc x with
    |some r=>.cO ⟨r,cs,dx⟩
    |none=>.stop "region" none
   |.stop w x=>.stop w x
  |true=>Da P need rd.isSome call ops st hs
 |.seq a b,st,hs=>match k2 P need rd call a st hs with
  |.cO ⟨(.nrm,cj),cs,dx⟩=>match k2 P need rd call b cj dx with
   |.cO ⟨r,b6,sC⟩=>.cO ⟨r,cs++b6,sC⟩
   |.stop w x=>.stop w x
  |x=>x
 |.cond c a b,st,hs=>match m9 0 [] st.Γ (cT P need [] c) with
  |some (.bool x)=>match hs with
   |.b true::hs=>match k2 P need rd call a st hs with
    |.cO ⟨r,cs,dx⟩=>.cO ⟨r,(x=true)::cs,dx⟩
    |.stop w x=>.stop w x
   |.b false::hs=>match k2 P need rd call b st hs with
    |.cO ⟨r,cs,dx⟩=>.cO ⟨r,(x=false)::cs,dx⟩
    |.stop w x=>.stop w x
   |_=>.stop "if" (some x)
  |_=>.stop "if what" none
 |.block id b,st,hs=>match k2 P need rd call b st hs with
  |.cO ⟨(.exit i,cj),cs,dx⟩=>match Nat.beq i id with
   |true=>.cO ⟨(.nrm,cj),cs,dx⟩
   |false=>.cO ⟨(.exit i,cj),cs,dx⟩
  |x=>x
 |.loop b,st,hs=>match hs with
  |.loop e cj::hs=>.cO ⟨(e,cj),[ck P need rd call (.loop b) st e cj],hs⟩
  |_=>.stop "loop" none
 |.rangeFunc f ps as cn,st,hs=>match hs with
  |.loop e cj::hs=>.cO ⟨(e,cj),[ck P need rd call (.rangeFunc f ps as cn) st e cj],hs⟩
  |_=>.stop "range over a function" none
 |.goto _,_,_=>.stop "goto" none
 |.refuse _,_,_=>.stop "refuse" none
end aD
namespace aD
open Go
theorem Db:∀(p q:hJ),p.num=q.num->p=q
 |.here,.here,_=>rfl
 |.here,.l q,h=>by simp only[hJ.num] at h;omega
 |.here,.r q,h=>by simp only[hJ.num] at h;omega
 |.l p,.here,h=>by simp only[hJ.num] at h;omega
 |.r p,.here,h=>by simp only[hJ.num] at h;omega
 |.l p,.l q,h=>by rw[Db p q (by simp only[hJ.num] at h;omega)]
 |.r p,.r q,h=>by rw[Db p q (by simp only[hJ.num] at h;omega)]
 |.l p,.r q,h=>by simp only[hJ.num] at h;omega
 |.r p,.l q,h=>by simp only[hJ.num] at h;omega
theorem Iu(p:hJ):gO p.num=p:=Db _ _ (yO _)
theorem sF(t u:Nat):(t=u/\Nat.beq t u=true)\/(t≠u/\Nat.beq t u=false):=by
 by_cases h:t=u
 · exact .inl ⟨h,by simp[h]⟩
 · refine .inr ⟨h,?_⟩
   cases af:Nat.beq t u with
   |false=>rfl
   |true=>exact absurd (Nat.eq_of_beq_eq_true af) h
theorem Dc(t u:Nat):∀Γ:Env,fh t (del u Γ)=if t=u then none else fh t Γ
 |[]=>by simp[del,fh]
 |(x,v)::l=>by
  have ba:=Dc t u l
  simp only[del]
  rcases sF u x with⟨e,af⟩|⟨e,af⟩
  · rw[af];simp only[ba,fh]
    subst e
    rcases sF t u with⟨aC,di⟩|⟨aC,di⟩
    · rw[if_pos aC,if_pos aC]
    · rw[if_neg aC,if_neg aC,di]
  · rw[af];simp only[fh,ba]
    rcases sF t x with⟨aC,di⟩|⟨aC,di⟩
    · rw[di];simp only[]
      rw[if_neg]
      intro h;exact e (by rw[<-h,aC])
    · rw[di]
theorem Qp(t u:Nat)(v:I)(Γ:Env):fh t (put u v Γ)=if t=u then some v else fh t Γ:=by
 simp only[put,fh]
 rcases sF t u with⟨e,af⟩|⟨e,af⟩
 · rw[af,if_pos e]
 · rw[af,if_neg e,Dc,if_neg e]
theorem Mod.put{r:aT}{Γ:Env}(h:Mod r Γ)(t:Nat)(v:I):Mod (r.set (gO t) v) (put t v Γ):=by
 intro u x ab
 rw[Qp] at ab
 rw[aT.b_]
 by_cases e:u=t
 · rw[if_pos e] at ab⊢;cases ab;rfl
 · rw[if_neg e] at ab⊢;exact h u x ab
theorem Mod.del{r:aT}{Γ:Env}(h:Mod r Γ)(t:Nat)(v:I):Mod (r.set (gO t) v) (del t Γ):=by
 intro u x ab
 rw[Dc] at ab
 rw[aT.b_]
 by_cases e:u=t
 · rw[if_pos e] at ab;cases ab
 · rw[if_neg e] at ab⊢;exact h u x ab
theorem Dd(Γ:Env)(t:Nat)(v:I):∀l,fh t (ml Γ l)=some v->fh t Γ=some v
 |[],h=>by simp[ml,fh] at h
 |u::l,h=>by
  simp only[ml] at h
  cases hu:fh u Γ with
  |none=>rw[hu] at h;exact Dd Γ t v l h
  |some x=>
   rw[hu] at h
   simp only[fh] at h
   rcases sF t u with⟨e,af⟩|⟨e,af⟩
   · rw[af] at h;rw[e,hu];exact h
   · rw[af] at h;exact Dd Γ t v l h
theorem Mod.ml{r:aT}{Γ:Env}(h:Mod r Γ)(l:List Nat):Mod r (ml Γ l):=λt v a6=>h t v (Dd Γ t v l a6)
theorem sG{m:Nat}{env:List I}{r:aT}{Γ:Env}(hm:Mod r Γ){a:Acc}{v:I}(h:m9 m env Γ a=some v):dU m env r a=v:=by
 cases a with
 |env j=>simp only[m9] at h;simp only[dU,h,Option.getD_some]
 |reg p=>simp only[m9] at h;simp only[dU];rw[<-Iu p];exact hm _ _ h
 |val x=>cases h;rfl
section
variable {P:Program}
theorem sH{o:Oper}{g:Operand->I}{h:J}{v:I}(ah:nO P o g h v):cM P o g h=.val v h:=by
 obtain⟨dst,op,type,pos,after,guard⟩:=o
 cases op<;>simp only[nO] at ah<;>(try exact ah.elim)
 case load t a=>
  split at ah
  · rename_i b off n aj a2 aK
    simp only[cM,aj,a2,ah,fC]
  · rename_i b off n aj a2 aK
    split at ah
    · simp only[cM,aj,a2,aK,ah]
    · exact ah.elim
  · exact ah.elim
 case binOp op t x y yt=>
  split at ah
  · rename_i k a dA b ab bg
    split at ah
    · simp only[cM,ab,bg,c7,ah,fC]
    · simp only[cM,ab,bg,c7,ah,fC]
    · rename_i hr jR
      split at ah
      · rename_i aw
        have fj:k=dA:=of_decide_eq_true aw
        simp only[cM,ab,bg,c7]
        cases op<;>first|exact absurd rfl hr|exact absurd rfl jR|(simp only[if_pos fj,ah,fC])
      · exact ah.elim
  · rename_i a b ab bg
    simp only[cM,ab,bg,c7,ah,fC]
  · simp only[cM,ah,fC]
 case unOp op t x=>
  split at ah
  · rename_i k n ab;simp only[cM,ab,ah]
  · rename_i k n ab;simp only[cM,ab,ah,fC]
  · exact ah.elim
 case slice t x bf ae mx=>simp only[cM,ah,fC]
 case index t x i=>
  split at ah
  · rename_i s n hu ab ae
    unfold gB at ah
    simp only[cM,hu,ab,ae]
    split at ah
    · rename_i da af;cases ah;simp only[af]
    · cases ah
  · rename_i m e cs n hu ab ae
    split at ah
    · rename_i sz bL
      simp only[cM,hu,ab,ae,bL,if_pos ah.1,ah.2,fC]
    · exact ah.elim
  · exact ah.elim
 case indexAddr t x i=>
  split at ah
  · rename_i m e b off n hu ab ae
    split at ah
    · rename_i sz bL
      simp only[cM,hu,ab,ae,bL,if_pos ah.1,ah.2]
    · exact ah.elim
  · rename_i e b off m c n hu ab ae
    split at ah
    · rename_i sz bL
      simp only[cM,hu,ab,ae,bL,if_pos ah.1,ah.2]
    · exact ah.elim
  · exact ah.elim
 case lookup t x i ok=>simp only[cM,ah,fC]
 case entry it=>simp only[cM,ah,fC]
 case convert src dst x=>simp only[cM,ah]
 case call c=>
  split at ah
  · rename_i x t iE hg a6;simp only[cM,iE,hg,hZ,a6,ah,fC]
  · rename_i x t iE hg a6;simp only[cM,iE,hg,hZ,a6,ah,fC]
  · rename_i x l _ iE hg;simp only[cM,iE,hg,hZ,ah,fC]
  · rename_i x l _ iE hg;simp only[cM,iE,hg,hZ,ah,fC]
  · rename_i x t iE hg a6
    simp only[cM,iE,hg]
    simp only[hZ,a6] at ah⊢
    exact ah
  · exact ah.elim
theorem Iv:∀(n:Nat) (cs b6:List I),ff n [I.bad] cs=some b6->False
 |0,[],_,h=>by simp[ff] at h
 |0,_::_,_,h=>by simp[ff,I.bY] at h
 |_+1,[],_,h=>by simp[ff] at h
 |n+1,c::cs,b6,h=>by
  simp only[ff] at h
  split at h
  · rename_i r ai;exact Iv n cs r ai
  · cases h
theorem Qq{h al:J}{b off:Nat}(hs:aD.storeCells h b off (I.cells .bad)=some al):False:=by
 unfold aD.storeCells at hs
 split at hs
 · split at hs
   · split at hs
     · rename_i bl;exact Iv _ _ _ bl
     · cases hs
   · cases hs
 · cases hs
theorem De{o:Oper}{g:Operand->I}{h al:J}{v:I}(ah:ur P o g h v al):cM P o g h=.val v al:=by
 obtain⟨dst,op,type,pos,after,guard⟩:=o
 cases op<;>simp only[ur] at ah<;>(try exact ah.elim)
 case store t a x=>
  split at ah
  · rename_i b off aj
    obtain⟨aa,ad,rfl⟩:=ah
    simp only[cM,aj]
    rw[aa]
    have af:g x≠ .bad:=λaf=>by
     rw[af] at ad
     exact Qq ad
    cases ed:g x<;>first|exact absurd ed af|(rw[ed] at ad;simp[ad,po])
  · exact ah.elim
 case convert src dst x=>simp only[cM,ah]
 case mapUpdate t m k x=>obtain⟨aa,rfl⟩:=ah;simp only[cM,aa,po]
 case insert t m k x=>obtain⟨aa,rfl⟩:=ah;simp only[cM,aa,po]
 case mapEntry t m k=>simp only[cM,ah,kP]
 case entryStore t m s x=>obtain⟨aa,rfl⟩:=ah;simp only[cM,aa,po]
 case next it isStr=>simp only[cM,ah,kP]
 case range t x=>
  split at ah
  · rename_i de hX hu
    unfold Il at ah
    split at ah
    · rename_i m aj
      split at ah
      · rename_i es c hm
        cases ah
        simp only[cM,hu,aj,hm]
      · cases ah
    · cases ah
  · exact ah.elim
 case makeSlice t l c=>
  unfold uq at ah
  simp only[cM]
  split at ah
  · rename_i e oH c' hu au wR
    split at ah
    · rename_i i z ae a4
      simp only[hu,au,wR,ae,a4]
      split at ah
      · rename_i j8
        rw[if_pos j8]
        split at ah
        · rename_i b ak aK;cases ah;simp only[aK]
        · cases ah
      · cases ah
    · cases ah
  · cases ah
 case call c=>
  split at ah
  · rename_i x y t iE hg a6;simp only[cM,iE,hg,hZ,a6,ah,kP]
  · rename_i x y t iE hg a6;simp only[cM,iE,hg,hZ,a6,ah,kP]
  · rename_i x t iE hg a6;simp only[cM,iE,hg,hZ,a6,ah,kP]
  · rename_i x y t iE hg a6;simp only[cM,iE,hg,hZ,a6,ah,kP]
  · rename_i x y t iE hg a6;simp only[cM,iE,hg,hZ,a6,ah,kP]
  · exact ah.elim
variable {inR:Bool} {call:ay->List I->J->an}
theorem Iw{pos:String}{f:ay}{args:List I}{d:List b1}{q:bJ}{h:J}{hs:List Hint}{y:gT mm}(ab:zG call pos f args d q h hs=.cO y)(ah:er y.cs):vK d q (call f args h)=y.res.res:=by
 unfold zG at ab
 split at ab
 · cases ab;rw[ah.1];rfl
 · cases ab;rw[ah.1];rfl
 · cases ab
theorem Qr{o:Oper}{g:Operand->I}{d:List b1}{q:bJ}{h:J}{hs:List Hint}{y:gT mm}(ab:C6 P inR call o g d q h hs=.cO y)(ah:er y.cs):
  dV P inR call none o g d q h=y.res.res:=by
 unfold C6 at ab
 unfold dV
 simp only[ey]
 split at ab
 · cases ab
   rw[sH ah.1];rfl
 · split at ab
   · rename_i e x dx bt
     cases ab
     have aa:(g x).cells.all I.bY=true:=ah.1.h
     have he:o.op=.box e x:=by
      unfold Im at bt
      split at bt
      · split at bt
        · rename_i he;cases bt;exact he
        · cases bt
      · cases bt
     have:cM P o g h=.val (.ptr h.n 0) (h.push (.cells (g x).cells e .own 0 0)):=by
      unfold cM;rw[he];simp only[newRow,aa]
     rw[this];rfl
   · split at ab
     · split at ab
       · rename_i gr;cases ab;rw[gr];rfl
       · rename_i gr;cases ab;rw[gr];rfl
       · rename_i gr;rw[gr];exact Iw ab ah
       · rename_i gr;rw[gr];exact Iw ab ah
       · rename_i z gr
         split at ab
         · cases ab
         · cases ab;rw[gr];rfl
       · rename_i gr
         split at ab
         · cases ab
         · split at ab
           · cases ab;rw[gr];rfl
           · cases ab;rw[gr];rfl
           · cases ab;rw[gr];rfl
       · cases ab
     · split at ab
       · cases ab
         rw[sH ah.1];rfl
       · cases ab
     · split at ab
       · cases ab
         rw[De ah.1];rfl
       · cases ab
theorem Ix{o:Oper}{g:Operand->I}{d:List b1}{q:bJ}{h:J}{hs:List Hint}{y:gT mm}(ab:zH P inR call o g d q h hs=.cO y)(ah:er y.cs):
  dV P inR call none o g d q h=y.res.res:=by
 unfold zH at ab
 cases bl:C7 o g d q h hs with
 |none=>rw[bl] at ab;exact Qr ab ah
 |some z=>
  rw[bl] at ab
  simp only at ab
  subst ab
  unfold C7 at bl
  split at bl
  · rename_i fW a b fU
    split at bl
    · rename_i da aj
      split at bl
      · cases bl
        obtain⟨rfl,_⟩:=ah
        unfold dV cM
        simp[ey,fU,aj,mm.res]
      · cases bl
        obtain⟨rfl,_⟩:=ah
        unfold dV cM
        simp[ey,fU,aj,mm.res]
      · cases bl
    · cases bl
  · cases bl
theorem ux{gd:Option (I×Bool)}(hw:ey gd=some true)(o:Oper)(g:Operand->I)(d:List b1)(q:bJ)(h:J):dV P inR call gd o g d q h=dV P inR call none o g d q h:=by
 unfold dV
 rw[hw]
 rfl
theorem wY{gd:Option (I×Bool)}(hw:ey gd=some false)(o:Oper)(g:Operand->I)(d:List b1)(q:bJ)(h:J):dV P inR call gd o g d q h=.ok (.aW []) d q h:=by
 unfold dV
 simp only[hw]
theorem wZ{gd:Option (I×Bool)}{o:Oper}{g:Operand->I}{d:List b1}{q:bJ}{h:J}{hs:List Hint}{y:gT mm}(ab:uu P inR call gd o g d q h hs=.cO y)(ah:er y.cs):
  dV P inR call gd o g d q h=y.res.res:=by
 unfold uu at ab
 split at ab
 · exact Ix ab ah
 · rename_i aan b
   split at ab
   · rename_i c hr
     split at ab
     · rename_i oB
       split at ab
       · rename_i s jq jR dO
         cases ab
         obtain⟨rfl,oS⟩:=ah
         rw[ux (by simp only[ey];rw[oB])]
         exact(Ix dO oS:)
       · cases ab
     · rename_i oB
       cases ab
       obtain⟨rfl,_⟩:=ah
       rw[wY (by simp only[ey];rw[oB])];rfl
   · cases ab
 · cases ab
   rw[wY rfl];rfl
 · cases ab
variable {need:Nat}
theorem zP{m:Nat}{env:List I}{r:aT}{Γ:Env}(hm:Mod r Γ){loc:List (Nat×Acc)}{o:Oper}(aw:uv P need m env Γ loc o=true):∀x∈o.op.operands,dU m env r (cT P need loc x)=kC P need m env Γ loc x:=by
 intro x ab
 unfold uv at aw
 rw[List.all_eq_true] at aw
 have:=aw x (by simpa using ab)
 obtain⟨v,aE⟩:=Option.isSome_iff_exists.1 this
 unfold kC
 rw[aE,sG hm aE];rfl
theorem Iy{r:aT}{Γ:Env}(hm:Mod r Γ):∀(l:List Step) (env:List I) (d:List b1) (q:bJ) (h:J) (hs:List Hint) (y:gT l5),zI P need inR call Γ l env d q h hs=.cO y->er y.cs->
  jJ P need inR call r l env d q h=y.res
 |[],env,d,q,h,hs,y,ab,ah=>by cases ab;rfl
 |s::rest,env,d,q,h,hs,y,ab,ah=>by
  simp only[zI] at ab
  split at ab
  · cases ab
  · rename_i aw
    split at ab
    · cases ab
    · rename_i gd gS
      have key:∀z,dV P inR call gd s.o (kC P need s.m env Γ s.loc) d q h=z->jJ P need inR call r (s::rest) env d q h=match z with
        |.ok v bG bP al=>jJ P need inR call r rest (v::env) bG bP al
        |.b9 v bG bP al=>.b9 v bG bP al
        |.fail w=>.fail w:=λz a4=>by
       simp only[jJ]
       rw[<-a4,<-sr (zP hm aw)]
       unfold Io at gS
       cases CO:s.guard with
       |none=>rw[CO] at gS;cases gS;rfl
       |some p=>
        obtain⟨a,b⟩:=p
        rw[CO] at gS
        simp only at gS
        cases aE:m9 s.m env Γ a with
        |none=>rw[aE] at gS;cases gS
        |some v=>rw[aE] at gS;cases gS;simp only[sG hm aE];rfl
      split at ab
      · rename_i v bG bP al jq hr gu
        split at ab
        · rename_i z w0 jR qB
          cases ab
          obtain⟨c1,c2⟩:=er.append ah
          have aa:=wZ gu c1
          have fm:dV P inR call gd s.o (kC P need s.m env Γ s.loc) d q h=.ok v bG bP al:=aa
          rw[key _ fm]
          exact(Iy hm rest (v::env) bG bP al hr _ qB c2:)
        · cases ab
      · rename_i v bG bP al jq hr gu
        cases ab
        have aa:=wZ gu ah
        have fm:dV P inR call gd s.o (kC P need s.m env Γ s.loc) d q h=.b9 v bG bP al:=aa
        rw[key _ fm]
      · cases ab
theorem Df{m:Nat}{env:List I}{hn:aT}{fl:Env}(hm:Mod hn fl):∀(l:List (Nat×Acc)) (r:aT) (Γ:Env),Mod r Γ->Mod (pq need m env hn l r) (sD need m env fl l Γ)
 |[],r,Γ,h=>h
 |(t,a)::l,r,Γ,h=>by
  have ba:=Df (m:=m) (env:=env) hm l r Γ h
  simp only[pq,sD]
  cases Nat.testBit need t with
  |false=>exact ba
  |true=>
   simp only
   cases aj:m9 m env fl a with
   |some v=>simp only;rw[sG hm aj];exact ba.put t v
   |none=>simp only;exact ba.del t _
theorem Dg:∀(l:List (Nat×Acc)) (r:aT) (Γ:Env),Mod r Γ->Mod (tO l r) (zJ l Γ)
 |[],r,Γ,h=>h
 |(t,a)::l,r,Γ,h=>(Dg l r Γ h).del t _
mutual
theorem sI:∀v:I,v.sound=true->I.beq v v=true
 |.bool b,_=>by simp[I.beq]
 |.int k n,_=>by simp[I.beq,a7]
 |.str s,_=>by simp[I.beq,oC]
 |.aR,_=>rfl
 |.ptr a i,_=>by simp[I.beq]
 |.a_,_=>rfl
 |.slice a i n c,_=>by cases c<;>simp[I.beq,b5.beq]
 |.g_,_=>rfl
 |.map a,_=>by simp[I.beq]
 |.fi,_=>rfl
 |.fn f a b,h=>by
  simp only[I.sound,Bool.and_eq_true] at h
  simp only[I.beq,w1 a h.1,w1 b h.2,Bool.and_true]
  simp
 |.cc a,_=>by simp[I.beq]
 |.eO,_=>rfl
 |.iface t v,h=>by
  simp only[I.sound] at h
  simp only[I.beq,sI v h,Bool.and_true]
  simp
 |.agg l,h=>by
  simp only[I.sound] at h
  simp only[I.beq,w1 l h]
 |.aW l,h=>by
  simp only[I.sound] at h
  simp only[I.beq,w1 l h]
 |.bad,h=>by simp[I.sound] at h
theorem w1:∀l:List I,iU l=true->I.jK l l=true
 |[],_=>rfl
 |a::l,h=>by
  simp only[iU,Bool.and_eq_true] at h
  simp only[I.jK,sI a h.1,w1 l h.2,Bool.and_true]
end
theorem Dh{ops:Array Oper}{r:aT}{Γ:Env}(hm:Mod r Γ){n:Nat}{env:List I}{s:DStep}{gd:Option (I×Bool)}(h:wW P need ops n env Γ s=some gd):gG P need ops r n env s=gd:=by
 unfold wW at h
 unfold gG
 split at h
 · rename_i aj;rw[aj];cases h;rfl
 · rename_i a b aj
   rw[aj]
   split at h
   · rename_i v aE
     cases h
     simp only[sG hm aE]
   · cases h
def Qs(P:Program)(need:Nat)(inR:Bool)(call:ay->List I->J->an)(ops:Array Oper)(r:aT)(cP:Nat)(s:DStep)(st cj:jr):Prop:=
 ∀rest,ga P need inR call ops r cP (s::rest) st.env st.d st.q st.h st.a9=ga P need inR call ops r cP rest cj.env cj.d cj.q cj.h cj.a9
theorem Iz{ops:Array Oper}{r:aT}{Γ:Env}(hm:Mod r Γ){cP:Nat}{s:DStep}{st:jr}{hs:List Hint}{y:gT jr}(ab:zK P need inR call ops Γ cP s st hs=.cO y)(ah:er y.cs):Qs P need inR call ops r cP s st y.res:=by
 intro rest
 unfold zK at ab
 split at ab
 · cases ab
 · rename_i aw
   have aj:=zP hm aw
   split at ab
   · cases ab
   · rename_i gd gS
     have aG:=Dh hm gS
     split at ab
     · rename_i gU
       have a2:=wL (P:=P) (o:=s.o.op) (b:=cP+s.i) aj
       simp only[ga,gU,aG]
       rw[a2]
       unfold Is at ab
       split at ab
       · split at ab
         · cases ab
           have hO:=Ir ah.1
           simp only[ey,hO]
         · split at ab
           · rename_i v o hO
             cases ab
             simp only[ey,hO]
           · cases ab
       · split at ab
         · rename_i x c _ gj hr
           split at ab
           · rename_i Di
             split at ab
             · rename_i v o hO
               cases ab
               obtain⟨rfl,_⟩:=ah
               simp only[ey,Di,hO]
             · cases ab
           · rename_i Di
             cases ab
             obtain⟨rfl,_⟩:=ah
             simp only[ey,Di]
         · cases ab
       · cases ab
         simp only[ey]
       · cases ab
     · rename_i gU
       simp only[ga,gU,aG]
       rw[sr aj]
       split at ab
       · rename_i v bG bP al jq hr gu
         cases ab
         have aa:=wZ gu ah
         have fm:dV P inR call gd s.o (kC P need s.i st.env Γ s.loc) st.d st.q st.h=.ok v bG bP al:=aa
         rw[fm]
       · cases ab
       · cases ab
     · rename_i gU
       split at ab
       · cases ab
       · rename_i k0
         simp only[ga,gU,aG]
         rw[sr aj]
         split at ab
         · rename_i v bG bP al jq hr gu
           cases ab
           have aa:=wZ gu ah
           have fm:dV P inR call gd s.o (kC P need s.i st.env Γ s.loc) st.d st.q st.h=.ok v bG bP al:=aa
           rw[fm]
           cases ct:st.a9 with
           |nil=>rfl
           |cons a l=>
            obtain⟨e,m,ak⟩:=a
            rw[ct] at k0
            simp only[sE] at k0
            simp only[k0]
         · cases ab
         · cases ab
theorem IA{ops:Array Oper}{r:aT}{Γ:Env}(hm:Mod r Γ){cP:Nat}:∀(l:List DStep) (st:jr) (hs:List Hint) (y:gT jr),zL P need inR call ops Γ cP l st hs=.cO y->er y.cs->
  ga P need inR call ops r cP l st.env st.d st.q st.h st.a9=.ok y.res.env y.res.d y.res.q y.res.h y.res.a9
 |[],st,hs,y,ab,ah=>by cases ab;rfl
 |s::rest,st,hs,y,ab,ah=>by
  simp only[zL] at ab
  split at ab
  · rename_i st1 jq hr aa
    split at ab
    · rename_i e5 w0 jR ad
      cases ab
      obtain⟨c1,c2⟩:=er.append ah
      rw[Iz hm aa c1 rest]
      exact(IA hm rest st1 hr ⟨e5,w0,jR⟩ ad c2:)
    · cases ab
  · cases ab
theorem Qt{o:Oper}{g:Operand->I}{h:J}{v:I}(ah:er (wX P o g h v)):∃v' al,cM P o g h=.val v' al/\I.beq v' v=true:=by
 unfold wX at ah
 split at ah
 · rename_i x a b bl
   obtain⟨aa,ad,_⟩:=ah
   refine⟨v,h,?_,sI v aa⟩
   unfold It at bl
   split at bl
   · rename_i c dr b' bd
     split at bl
     · rename_i cW zQ
       cases bl
       cases x<;>simp only[cM,bd,zQ]<;>rw[<-ad]<;>rfl
     · cases bl
   · cases bl
 split at ah
 · exact⟨v,h,sH ah.2.1,sI v ah.1⟩
 split at ah
 · exact⟨v,h,sH ah.2.1,sI v ah.1⟩
 · split at ah
   · rename_i v' al he
     obtain⟨aa,rfl,_⟩:=ah
     exact⟨v',al,he,sI v' aa⟩
   · exact ah.1.elim
theorem IB{ops:Array Oper}{r:aT}{Γ:Env}(hm:Mod r Γ){n:Nat}{env:List I}{s:DStep}{v:I}{h:J}(ah:er (C9 P need ops Γ n env s v h)):lp P need ops r n env s v h=true:=by
 unfold C9 at ah
 unfold lp
 split at ah
 · rename_i gd aw gS
   rw[Dh hm gS]
   have aj:=zP hm aw
   have key:er (wX P s.o (kC P need n env Γ s.loc) h v)->(match cM P s.o (λx=>dU n env r (cT P need s.loc x)) h with
     |.val v' _=>I.beq v' v
     |_=>false)=true:=λau=>by
    rw[wK s.o h aj]
    obtain⟨v',al,aA,aC⟩:=Qt au
    rw[aA];exact aC
   split at ah
   · simp only[ey];exact key ah
   · rename_i x b
     simp only[ey]
     obtain⟨ah,_⟩:=ah
     unfold lookW at ah
     split at ah
     · rw[ah]
     · cases GZ:(x==b) with
       |false=>rfl
       |true=>exact key ah
   · rfl
   · exact ah.1.elim
 · exact ah.1.elim
theorem zR{ops:Array Oper}{r:aT}{n:Nat}{env:List I}{s:DStep}{v:I}(dX:Option Nat)(h:J)(a9:m_):kx P need ops r n env s v dX h a9=
  ((match pN s dX a9 with|true=>true|false=>lp P need ops r n env s v h)&&(match a9 with|[]=>true|(e,_,al)::rest=>kx P need ops r n env s v (some e) al rest)):=by
 cases a9<;>(rw[kx.eq_def];rfl)
theorem Dj{ops:Array Oper}{r:aT}{Γ:Env}(hm:Mod r Γ){n:Nat}{env:List I}{s:DStep}{v:I}:∀(a9:m_) (dX:Option Nat) (h:J),er (uw P need ops Γ n env s v dX h a9)->kx P need ops r n env s v dX h a9=true
 |[],dX,h,ah=>by
  rw[zR]
  unfold uw at ah
  obtain⟨c1,_⟩:=er.append ah
  cases af:pN s dX [] with
  |true=>rfl
  |false=>rw[af] at c1;simp only[Bool.and_true];exact IB hm c1
 |(e,m,al)::rest,dX,h,ah=>by
  rw[zR]
  unfold uw at ah
  obtain⟨c1,c2⟩:=er.append ah
  have ba:=Dj hm rest (some e) al c2
  cases af:pN s dX ((e,m,al)::rest) with
  |true=>simp only[Bool.true_and];exact ba
  |false=>
   rw[af] at c1
   simp only
   rw[IB hm c1,Bool.true_and];exact ba
theorem IC{ops:Array Oper}{r:aT}{Γ:Env}(hm:Mod r Γ){n:Nat}{env:List I}{h:J}{a9:m_}:∀(l:List DStep),er (zN P need ops Γ n env h a9 l)->kQ P need ops r n env none h a9 l=true
 |[],_=>rfl
 |s::rest,ah=>by
  simp only[zN] at ah
  obtain⟨c1,c2⟩:=er.append ah
  simp only[kQ]
  rw[IC hm rest c2,Bool.and_true]
  cases aa:Nat.blt s.i n with
  |false=>rfl
  |true=>
   rw[aa] at c1
   cases ad:kindOf P s.o.op with
   |pure=>rw[ad] at c1;exact Dj hm a9 none h c1
   |alloc=>rfl
   |eg=>rfl
theorem Qu{ops:Array Oper}{r:aT}{Γ:Env}(hm:Mod r Γ){cP:Nat}{s:DStep}{rest:List DStep}{st:jr}{hs:List Hint}{y:gT (I×jr)}(ab:C8 P need inR call ops Γ s rest st hs=.cO y)(ah:er y.cs):
  ga P need inR call ops r cP (s::rest) st.env st.d st.q st.h st.a9=.b9 y.res.1 y.res.2.env y.res.2.d y.res.2.q y.res.2.h y.res.2.a9:=by
 unfold C8 at ab
 split at ab
 · cases ab
 · rename_i aw
   have aj:=zP hm aw
   split at ab
   · cases ab
   · rename_i gd gS
     have aG:=Dh hm gS
     split at ab
     · rename_i gU
       split at ab
       · cases ab
       · rename_i k0
         simp only[ga,gU,aG]
         rw[sr aj]
         split at ab
         · rename_i v bG bP al jq hr gu
           split at ab
           · rename_i fQ
             cases ab
             have aa:=wZ gu ah
             have fm:dV P inR call gd s.o (kC P need s.i st.env Γ s.loc) st.d st.q st.h=.b9 v bG bP al:=aa
             rw[fm]
             cases ct:st.a9 with
             |nil=>simp only[fQ]
             |cons a l=>
              obtain⟨e,m,ak⟩:=a
              rw[ct] at k0
              simp only[sE] at k0
              simp only[k0,fQ]
           · cases ab
         · cases ab
     · cases ab
theorem ID{ops:Array Oper}{r:aT}{Γ:Env}(hm:Mod r Γ){cP:Nat}:∀(l:List DStep) (st:jr) (hs:List Hint) (y:gT (I×jr)),zM P need inR call ops Γ cP l st hs=.cO y->er y.cs->
  ga P need inR call ops r cP l st.env st.d st.q st.h st.a9=.b9 y.res.1 y.res.2.env y.res.2.d y.res.2.q y.res.2.h y.res.2.a9
 |[],st,hs,y,ab,ah=>by cases ab
 |s::rest,st,hs,y,ab,ah=>by
  simp only[zM] at ab
  split at ab
  · rename_i gj aa
    cases ab
    exact Qu hm aa ah
  · split at ab
    · rename_i st1 jq hr aa
      split at ab
      · rename_i e5 w0 jR ad
        cases ab
        obtain⟨c1,c2⟩:=er.append ah
        rw[Iz hm aa c1 rest]
        exact(ID hm rest st1 hr ⟨e5,w0,jR⟩ ad c2:)
      · cases ab
    · cases ab
theorem IE{ops:Array Oper}{r:aT}{Γ:Env}(hm:Mod r Γ){n:Nat}{env:List I}{last:Option Nat}{h:J}{a9:m_}:∀(l:List DStep),er (zO P need ops Γ n env last h a9 l)->kQ P need ops r n env last h a9 l=true
 |[],_=>rfl
 |s::rest,ah=>by
  simp only[zO] at ah
  obtain⟨c1,c2⟩:=er.append ah
  simp only[kQ]
  rw[IE hm rest c2,Bool.and_true]
  cases aa:Nat.blt s.i n with
  |false=>rfl
  |true=>
   rw[aa] at c1
   cases ad:kindOf P s.o.op with
   |pure=>rw[ad] at c1;exact Dj hm a9 last h c1
   |alloc=>rfl
   |eg=>rfl
theorem Qv{id:Nat}{ops:Array Oper}{rd:Option Nat}{st:ag}{hs:List Hint}{y:gT (bF×ag)}(ab:C_ P need rd.isSome call ops st hs=.cO y)(ah:er y.cs):ck P need rd call (.region id ops true) st y.res.1 y.res.2:=by
 unfold C_ at ab
 split at ab
 · rename_i v env d q h e m h0 a9 jq hr aG
   cases ab
   obtain⟨c1,c2⟩:=er.append ah
   intro r hm
   have aa:=ID hm _ _ _ _ aG c1
   have ad:=IE hm _ c2
   simp only at aa
   refine⟨_,?_,Dg _ _ _ hm⟩
   have fm:ga P need rd.isSome call ops r st.h.n (e1 ops.toList 0 [] []) [] st.d st.q ⟨st.h.t,st.h.n+ops.size⟩ []=.b9 v env d q h ((e,m,h0)::a9):=aa
   simp only[dG,rT,fm,ad,pr]
 · cases ab
 · cases ab
theorem Qw{id:Nat}{ops:Array Oper}{rd:Option Nat}{st:ag}{hs:List Hint}{y:gT (bF×ag)}(ab:Da P need rd.isSome call ops st hs=.cO y)(ah:er y.cs):ck P need rd call (.region id ops true) st y.res.1 y.res.2:=by
 unfold Da at ab
 split at ab
 · rename_i env d q h a9 jq hr aG
   cases ab
   obtain⟨c1,c2⟩:=er.append ah
   intro r hm
   have aa:=IA hm _ _ _ _ aG c1
   have ad:=IC hm _ c2
   simp only at aa
   refine⟨_,?_,Df hm _ _ _ hm⟩
   have fm:ga P need rd.isSome call ops r st.h.n (e1 ops.toList 0 [] []) [] st.d st.q ⟨st.h.t,st.h.n+ops.size⟩ []=.ok env d q h a9:=aa
   simp only[dG,rT,fm,ad,pr]
 · exact Qv ab ah
variable {rd:Option Nat}
theorem oT:∀(c:Code) (st:ag) (hs:List Hint) (y:gT (bF×ag)),k2 P need rd call c st hs=.cO y->er y.cs->ck P need rd call c st y.res.1 y.res.2
 |.skip,st,hs,y,ab,ah=>by cases ab;exactλr ai=>⟨r,rfl,ai⟩
 |.label _,st,hs,y,ab,ah=>by cases ab;exactλr ai=>⟨r,rfl,ai⟩
 |.exit id,st,hs,y,ab,ah=>by cases ab;exactλr ai=>⟨r,rfl,ai⟩
 |.ret,st,hs,y,ab,ah=>by cases ab;exactλr ai=>⟨r,rfl,ai⟩
 |.scope b,st,hs,y,ab,ah=>oT b st hs y ab ah
 |.region id ops draw,st,hs,y,ab,ah=>by
  simp only[k2] at ab
  cases draw with
  |true=>exact Qw ab ah
  |false=>
   simp only at ab
   split at ab
   · rename_i x jq hr ct
     split at ab
     · rename_i bb Dk
       cases ab
       intro r ai
       have aa:=Iy ai _ _ _ _ _ _ _ ct ah
       simp only at aa
       simp only[dG,aa]
       cases x with
       |ok env d q h=>cases Dk;exact⟨_,rfl,Df ai _ _ _ ai⟩
       |b9 v d q h=>cases Dk;exact⟨_,rfl,Dg _ _ _ ai⟩
       |fail w=>cases Dk
     · cases ab
   · cases ab
 |.seq a b,st,hs,y,ab,ah=>by
  simp only[k2] at ab
  split at ab
  · rename_i st1 jq hr a2
    split at ab
    · rename_i a3 w0 jR af
      cases ab
      obtain⟨c1,c2⟩:=er.append ah
      intro r ai
      obtain⟨bb,aa,cV⟩:=oT a st hs _ a2 c1 r ai
      obtain⟨a3,ad,h2⟩:=oT b st1 hr _ af c2 bb cV
      exact⟨a3,by simp only at aa ad;simp only[dG,aa,pt,ad],h2⟩
    · cases ab
  · rename_i dC
    intro r ai
    obtain⟨bb,aa,cV⟩:=oT a st hs y ab ah r ai
    refine⟨bb,?_,cV⟩
    simp only[dG,aa]
    refine sh (λcY=>?_)
    obtain⟨⟨aA,st1⟩,jq,hr⟩:=y
    simp only at cY
    subst cY
    exact dC _ _ _ ab
 |.cond c a b,st,hs,y,ab,ah=>by
  simp only[k2] at ab
  split at ab
  · rename_i x aj
    split at ab
    · split at ab
      · rename_i bb jq hr a2
        cases ab
        obtain⟨rfl,c1⟩:=ah
        intro r ai
        obtain⟨bb,aa,cV⟩:=oT a st _ _ a2 c1 r ai
        exact⟨bb,by simp only at aa;simp only[dG,sG ai aj,aa],cV⟩
      · cases ab
    · split at ab
      · rename_i bb jq hr a2
        cases ab
        obtain⟨rfl,c1⟩:=ah
        intro r ai
        obtain⟨bb,aa,cV⟩:=oT b st _ _ a2 c1 r ai
        exact⟨bb,by simp only at aa;simp only[dG,sG ai aj,aa],cV⟩
      · cases ab
    · cases ab
  · cases ab
 |.block id b,st,hs,y,ab,ah=>by
  simp only[k2] at ab
  split at ab
  · rename_i i st1 jq hr af
    split at ab
    · rename_i ae
      cases ab
      obtain rfl:=Nat.eq_of_beq_eq_true ae
      intro r ai
      obtain⟨bb,aa,cV⟩:=oT b st hs _ af ah r ai
      exact⟨bb,by simp only at aa;simp only[dG,aa,if_true],cV⟩
    · rename_i ae
      cases ab
      intro r ai
      obtain⟨bb,aa,cV⟩:=oT b st hs _ af ah r ai
      have dC:¬i=id:=by intro cY;subst cY;simp at ae
      exact⟨bb,by simp only at aa;simp only[dG,aa,if_neg dC],cV⟩
  · rename_i dC
    intro r ai
    obtain⟨bb,aa,cV⟩:=oT b st hs y ab ah r ai
    refine⟨bb,?_,cV⟩
    obtain⟨⟨aA,st1⟩,jq,hr⟩:=y
    simp only at aa
    simp only[dG,aa]
    cases aA<;>first|rfl|exact absurd ab (dC _ _ _ _)
 |.loop b,st,hs,y,ab,ah=>by
  simp only[k2] at ab
  split at ab
  · cases ab;exact ah.1
  · cases ab
 |.rangeFunc f ps as cn,st,hs,y,ab,ah=>by
  simp only[k2] at ab
  split at ab
  · cases ab;exact ah.1
  · cases ab
 |.goto _,st,hs,y,ab,ah=>by cases ab
 |.refuse _,st,hs,y,ab,ah=>by cases ab
end
end aD
namespace aD
theorem uy{z:Bool}(h:z=true):(Decidable.rec (motive:=λ_=>Bool) (λh=>(λx=>false) h) (λh=>(λx=>true) h) (instDecidableEqBool z false):Bool)=false:=by subst h;rfl
open Go
def sub:Code->List Nat->Code
 |c,[]=>c
 |.seq a _,0::l=>sub a l
 |.seq _ b,_::l=>sub b l
 |.cond _ a _,0::l=>sub a l
 |.cond _ _ b,_::l=>sub b l
 |.block _ b,_::l=>sub b l
 |.loop b,_::l=>sub b l
 |.scope b,_::l=>sub b l
 |.rangeFunc _ _ a _,0::l=>sub a l
 |.rangeFunc _ _ _ b,_::l=>sub b l
 |c,_::_=>c
def fX(fn:Func):Code:=fn.body.getD .skip
def cC:Env->Env->Prop
 |[],_=>True
 |(t,v)::l,Γ=>fh t Γ=some v/\cC l Γ
theorem cC.ok:∀{Γ2 Γ:Env},cC Γ2 Γ->∀t v,fh t Γ2=some v->fh t Γ=some v
 |[],Γ,_,t,v,h=>by simp[fh] at h
 |(u,x)::l,Γ,⟨aa,ad⟩,t,v,h=>by
  simp only[fh] at h
  rcases sF t u with⟨e,af⟩|⟨e,af⟩
  · rw[af] at h;cases h;rw[e];exact aa
  · rw[af] at h;exact cC.ok ad t v h
theorem Mod.sub{r:aT}{Γ Γ2:Env}(h:Mod r Γ)(hs:cC Γ2 Γ):Mod r Γ2:=λt v a6=>h t v (hs.ok t v a6)
section
variable {P:Program} {need:Nat} {rd:Option Nat} {call:ay->List I->J->an}
def Dl(bH:List Nat):kB (gT (bF×ag))->Option (gT (bF×ag))
 |.cO ⟨(e,⟨Γ,d,q,h⟩),cs,[]⟩=>some ⟨(e,⟨ml Γ bH,d,q,h⟩),cs,[]⟩
 |_=>none
theorem Qx{c:Code}{st:ag}{hs:List Hint}{e:bF}{cj:ag}{cs:List Prop}(bH:List Nat)(ab:Dl bH (k2 P need rd call c st hs)=some ⟨(e,cj),cs,[]⟩)(ah:er cs):ck P need rd call c st e cj:=by
 unfold Dl at ab
 split at ab
 · rename_i aA gC d1 aV aa jq Qy
   cases ab
   intro r ai
   obtain⟨bb,aa,cV⟩:=oT c st hs _ Qy ah r ai
   exact⟨bb,aa,cV.ml bH⟩
 · cases ab
theorem ck.pre{c:Code}{st st1 cj:ag}{e:bF}(h:ck P need rd call c st e cj)(hs:cC st.Γ st1.Γ)(aG:st1.d=st.d)(bq:st1.q=st.q)(ak:st1.h=st.h):ck P need rd call c st1 e cj:=by
 intro r ai
 obtain⟨bb,aa,cV⟩:=h r (ai.sub hs)
 exact⟨bb,by rw[aG,bq,ak];exact aa,cV⟩
theorem ck.post{c:Code}{st cj:ag}{Γ2:Env}{e:bF}(h:ck P need rd call c st e cj)(hs:cC Γ2 cj.Γ):ck P need rd call c st e {cj with Γ:=Γ2}:=by
 intro r ai
 obtain⟨bb,aa,cV⟩:=h r ai
 exact⟨bb,aa,cV.sub hs⟩
def nP(P:Program)(need:Nat)(rd:Option Nat)(call:ay->List I->J->an)(b:Code)(n:Nat)(st:ag)(e:bF)(cj:ag):Prop:=
 ∀r,Mod r st.Γ->∃r',ov (dG P need rd call b) n r st.d st.q st.h=.ok e r' cj.d cj.q cj.h/\Mod r' cj.Γ
theorem nP.step{b:Code}{n:Nat}{st st1 cj:ag}{e:bF}(h:ck P need rd call b st .nrm st1)(ad:nP P need rd call b n st1 e cj):nP P need rd call b (n+1) st e cj:=by
 intro r ai
 obtain⟨bb,aA,cV⟩:=h r ai
 obtain⟨a3,aC,h2⟩:=ad bb cV
 exact⟨a3,by simp only[ov,aA,pt,aC],h2⟩
theorem nP.exit{b:Code}{n:Nat}{st cj:ag}{e:bF}(h:ck P need rd call b st e cj)(he:e≠ .nrm):nP P need rd call b (n+1) st e cj:=by
 intro r ai
 obtain⟨bb,aA,cV⟩:=h r ai
 exact⟨bb,by simp only[ov,aA];exact sh he,cV⟩
theorem Dm{f:aT->List b1->bJ->J->iL}:∀{n m:Nat},n<=m->∀{r d q h e r' bG bP al},ov f n r d q h=.ok e r' bG bP al->ov f m r d q h=.ok e r' bG bP al
 |0,_,_,_,_,_,_,_,_,_,_,_,h=>by cases h
 |n+1,0,hle,_,_,_,_,_,_,_,_,_,_=>by omega
 |n+1,m+1,hle,r,d,q,h,e,r',bG,bP,al,ab=>by
  simp only[ov] at ab⊢
  cases hf:f r d q h with
  |fail w=>rw[hf] at ab;cases ab
  |ok aA bb d1 aV aa=>
   rw[hf] at ab
   cases aA<;>simp only[pt] at ab⊢ <;>first|exact Dm (by omega) ab|exact ab
theorem nP.run{b:Code}{n:Nat}{st cj:ag}{e:bF}(h:nP P need rd call b n st e cj)(aK:n<=100000):ck P need rd call (.loop b) st e cj:=by
 intro r ai
 obtain⟨bb,aA,cV⟩:=h r ai
 exact⟨bb,by simp only[dG];exact Dm aK aA,cV⟩
def nQ:Nat->List I->Env
 |_,[]=>[]
 |i,v::l=>(i,v)::nQ (i+1) l
theorem IF(t:Nat)(v:I):∀(l:List I) (i:Nat),fh t (nQ i l)=some v->i<=t/\t<i+l.length/\l[t-i]? =some v
 |[],i,h=>by simp[nQ,fh] at h
 |x::l,i,h=>by
  simp only[nQ,fh] at h
  rcases sF t i with⟨e,af⟩|⟨e,af⟩
  · rw[af] at h;cases h;subst e;simp
  · rw[af] at h
    obtain⟨aa,ad,ax⟩:=IF t v l (i+1) h
    refine⟨by omega,by simp;omega,?_⟩
    have:t-i=(t-(i+1))+1:=by omega
    rw[this];simpa using ax
theorem zS(args:List I):Mod (ny 0 args .leaf) (nQ 0 args):=by
 intro t v h
 obtain⟨aa,ad,ax⟩:=IF t v args 0 h
 rw[Cs,if_pos ⟨aa,ad⟩,ax];rfl
def oU(P:Program)(need:Nat)(Γ:Env)(h:J)(x:ResultVar):Option I:=
 match x with
 |.tmp t=>match Nat.testBit need t with
  |true=>fh t Γ
  |false=>none
 |.cell t ty=>match Nat.testBit need t with
  |true=>match fh t Γ with
   |none=>none
   |some p=>match p,l4 P ty,dt P ty with
    |.ptr b off,some true,some n=>(match loadCells h b off n with|some cs=>some (.agg cs)|none=>none)
    |.ptr b off,some false,_=>aq h b off
    |_,_,_=>none
  |false=>none
theorem Qz{Γ:Env}{r:aT}(hm:Mod r Γ){h:J}{x:ResultVar}{v:I}(ab:oU P need Γ h x=some v):qs P need r h x=some v:=by
 cases x with
 |tmp t=>
  simp only[oU,qs] at ab⊢
  split at ab
  · rename_i af
    rw[af];simp only[hm t v ab]
  · cases ab
 |cell t ty=>
  simp only[oU,qs] at ab⊢
  split at ab
  · rename_i af
    rw[af]
    simp only
    cases au:fh t Γ with
    |none=>rw[au] at ab;simp at ab
    |some p=>rw[au] at ab;rw[hm t p au];exact ab
  · cases ab
def na(P:Program)(need:Nat)(fn:Func)(Γ:Env)(h:J):Option I:=
 match mR (oU P need Γ h) fn.results.toList with
 |some [v]=>some v
 |some vs=>some (.aW vs)
 |none=>none
theorem IG{Γ:Env}{r:aT}(hm:Mod r Γ){h:J}:∀(l:List ResultVar) (vs:List I),mR (oU P need Γ h) l=some vs->mR (qs P need r h) l=some vs
 |[],vs,ab=>ab
 |x::l,vs,ab=>by
  simp only[mR] at ab⊢
  cases aa:oU P need Γ h x with
  |none=>rw[aa] at ab;simp at ab
  |some v=>
   rw[aa] at ab
   cases ad:mR (oU P need Γ h) l with
   |none=>rw[ad] at ab;simp at ab
   |some ws=>
    rw[ad] at ab
    rw[Qz hm aa,IG hm l ws ad];exact ab
theorem Dn{Γ:Env}{r:aT}(hm:Mod r Γ){h:J}{fn:Func}{v:I}(ab:na P need fn Γ h=some v):pv P need fn r h=some v:=by
 unfold na at ab
 unfold pv
 cases a2:mR (oU P need Γ h) fn.results.toList with
 |none=>rw[a2] at ab;cases ab
 |some vs=>
  rw[a2] at ab
  rw[IG hm _ _ a2];exact ab
variable {intr:Nat->List I->J->Option (I×J)}
theorem QA{f:Nat}{fn:Func}{c:Code}{n:Nat}{args:List I}{h:J}(hf:P.funcs[f]? =some fn)(af:fn.body=some c)(aK:d_ fn=need)(ae:intr f args h=none)(hle:Nat.ble args.length fn.ntmps=true)
  {e:bF}{Γ:Env}{q:bJ}{al:J}(eX:ck P need none (fD P intr n) c ⟨nQ 0 args,[],.none,h⟩ e ⟨Γ,[],q,al⟩)(he:e=.ret\/e=.nrm){v:I}(h5:na P need fn Γ al=some v):
  fD P intr (n+1) (.fn f) args h=.ret v al:=by
 subst aK
 obtain⟨bb,aa,cV⟩:=eX _ (zS args)
 have ai:=Dn cV h5
 simp only[fD,ae,qt,hf,af,l6,hle,aa]
 rcases he with rfl|rfl<;>simp only[l7,jM,ai]
theorem QB{f:Nat}{fn:Func}{c:Code}{n:Nat}{args:List I}{h:J}(hf:P.funcs[f]? =some fn)(af:fn.body=some c)(aK:d_ fn=need)(ae:intr f args h=none)(hle:Nat.ble args.length fn.ntmps=true)
  {v:I}{Γ:Env}{q:bJ}{al:J}(eX:ck P need none (fD P intr n) c ⟨nQ 0 args,[],.none,h⟩ (.b9 v) ⟨Γ,[],q,al⟩):
  fD P intr (n+1) (.fn f) args h=.b9 v al:=by
 subst aK
 obtain⟨bb,aa,cV⟩:=eX _ (zS args)
 simp only[fD,ae,qt,hf,af,l6,hle,aa,l7,jM]
abbrev av(P:Program)(fn:Func)(rd:Option Nat)(call:ay->List I->J->an)(path:List Nat)(st:ag)(e:bF)(cj:ag):Prop:=ck P (d_ fn) rd call (sub (fX fn) path) st e cj
abbrev QC(P:Program)(fn:Func)(rd:Option Nat)(call:ay->List I->J->an)(path:List Nat)(st:ag)(hs:List Hint):kB (gT (bF×ag)):=k2 P (d_ fn) rd call (sub (fX fn) path) st hs
theorem a1{fn:Func}{path:List Nat}{st:ag}{hs:List Hint}{e:bF}{cj:ag}{cs:List Prop}(bH:List Nat)(ab:Dl bH (QC P fn rd call path st hs)=some ⟨(e,cj),cs,[]⟩)(ah:er cs):av P fn rd call path st e cj:=Qx bH ab ah
end
end aD
namespace aD
open Go
theorem IH:∀(c:Code) (x:Nat) (l:List Nat),sub c (x::l)=sub (sub c [x]) l
 |.seq a b,0,l=>by simp[sub]
 |.seq a b,_+1,l=>by simp[sub]
 |.cond _ a b,0,l=>by simp[sub]
 |.cond _ a b,_+1,l=>by simp[sub]
 |.rangeFunc _ _ a b,0,l=>by simp[sub]
 |.rangeFunc _ _ a b,_+1,l=>by simp[sub]
 |.block _ b,x,l=>by simp[sub]
 |.loop b,x,l=>by simp[sub]
 |.scope b,x,l=>by simp[sub]
 |.skip,x,l=>by cases l<;>simp[sub]
 |.region _ _ _,x,l=>by cases l<;>simp[sub]
 |.exit _,x,l=>by cases l<;>simp[sub]
 |.ret,x,l=>by cases l<;>simp[sub]
 |.label _,x,l=>by cases l<;>simp[sub]
 |.goto _,x,l=>by cases l<;>simp[sub]
 |.refuse _,x,l=>by cases l<;>simp[sub]
theorem ke(c:Code):∀(p l:List Nat),sub c (p++l)=sub (sub c p) l
 |[],l=>by simp[sub]
 |x::p,l=>by rw[List.cons_append,IH,ke (sub c [x]) p l,<-IH]
def w2:Code->Bool
 |.seq _ _=>true
 |_=>false
def w3(id:Nat):Code->Bool
 |.block i _=>Nat.beq i id
 |_=>false
def zT:Code->Bool
 |.loop _=>true
 |_=>false
theorem Dp{c:Code}(h:w2 c=true):c=.seq (sub c [0]) (sub c [1]):=by
 cases c<;>simp[w2,sub] at h⊢
theorem Dq{c:Code}{id:Nat}(h:w3 id c=true):c=.block id (sub c [0]):=by
 cases c<;>simp only[w3] at h<;>(try (cases h;done))
 obtain rfl:=Nat.eq_of_beq_eq_true h
 simp[sub]
theorem QD{c:Code}(h:zT c=true):c=.loop (sub c [0]):=by
 cases c<;>simp[zT,sub] at h⊢
section
variable {P:Program} {rd:Option Nat} {call:ay->List I->J->an} {fn:Func}
theorem ck.seq{need:Nat}{a b:Code}{st st1 j_:ag}{e:bF}(aa:ck P need rd call a st .nrm st1)(ad:ck P need rd call b st1 e j_):ck P need rd call (.seq a b) st e j_:=by
 intro r ai
 obtain⟨bb,aA,cV⟩:=aa r ai
 obtain⟨a3,aC,h2⟩:=ad bb cV
 exact⟨a3,by simp only[dG,aA,pt,aC],h2⟩
theorem ck.e_{need:Nat}{a b:Code}{st st1:ag}{e:bF}(aa:ck P need rd call a st e st1)(he:e≠ .nrm):ck P need rd call (.seq a b) st e st1:=by
 intro r ai
 obtain⟨bb,aA,cV⟩:=aa r ai
 exact⟨bb,by simp only[dG,aA];exact sh he,cV⟩
theorem ck.block{need:Nat}{id:Nat}{b:Code}{st st1:ag}(aa:ck P need rd call b st (.exit id) st1):ck P need rd call (.block id b) st .nrm st1:=by
 intro r ai
 obtain⟨bb,aA,cV⟩:=aa r ai
 exact⟨bb,by simp only[dG,aA,if_true],cV⟩
theorem ck.nb{need:Nat}{id:Nat}{b:Code}{st st1:ag}{e:bF}(aa:ck P need rd call b st e st1)(he:e≠ .exit id):ck P need rd call (.block id b) st e st1:=by
 intro r ai
 obtain⟨bb,aA,cV⟩:=aa r ai
 refine⟨bb,?_,cV⟩
 simp only[dG,aA]
 cases e<;>first|rfl|(rename_i i;exact if_neg λh=>he (by rw[h]))
theorem av.seq{p:List Nat}{st st1 j_:ag}{e:bF}(hs:w2 (sub (fX fn) p)=true)(aa:av P fn rd call (p++[0]) st .nrm st1)(ad:av P fn rd call (p++[1]) st1 e j_):av P fn rd call p st e j_:=by
 unfold av at*
 rw[Dp hs]
 rw[ke] at aa ad
 exact aa.seq ad
theorem av.e_{p:List Nat}{st st1:ag}{e:bF}(hs:w2 (sub (fX fn) p)=true)(aa:av P fn rd call (p++[0]) st e st1)(he:e≠ .nrm):av P fn rd call p st e st1:=by
 unfold av at*
 rw[Dp hs]
 rw[ke] at aa
 exact aa.e_ he
theorem av.block{p:List Nat}{id:Nat}{st st1:ag}(hs:w3 id (sub (fX fn) p)=true)(aa:av P fn rd call (p++[0]) st (.exit id) st1):av P fn rd call p st .nrm st1:=by
 unfold av at*
 rw[Dq hs]
 rw[ke] at aa
 exact aa.block
theorem av.nb{p:List Nat}{id:Nat}{st st1:ag}{e:bF}(hs:w3 id (sub (fX fn) p)=true)(aa:av P fn rd call (p++[0]) st e st1)(he:e≠ .exit id):av P fn rd call p st e st1:=by
 unfold av at*
 rw[Dq hs]
 rw[ke] at aa
 exact aa.nb he
def dH(P:Program)(fn:Func)(rd:Option Nat)(call:ay->List I->J->an)(p:List Nat)(n:Nat)(st:ag)(e:bF)(cj:ag):Prop:=nP P (d_ fn) rd call (sub (fX fn) (p++[0])) n st e cj
theorem dH.step{p:List Nat}{n:Nat}{st st1 cj:ag}{e:bF}(h:av P fn rd call (p++[0]) st .nrm st1)(ad:dH P fn rd call p n st1 e cj):dH P fn rd call p (n+1) st e cj:=nP.step h ad
theorem dH.exit{p:List Nat}{n:Nat}{st cj:ag}{e:bF}(h:av P fn rd call (p++[0]) st e cj)(he:e≠ .nrm):dH P fn rd call p (n+1) st e cj:=nP.exit h he
theorem dH.run{p:List Nat}{n:Nat}{st cj:ag}{e:bF}(hs:zT (sub (fX fn) p)=true)(h:dH P fn rd call p n st e cj)(aK:n<=100000):av P fn rd call p st e cj:=by
 unfold av
 rw[QD hs]
 unfold dH at h
 rw[ke] at h
 exact nP.run h aK
theorem dJ{intr:Nat->List I->J->Option (I×J)}{f:Nat}{n:Nat}{args:List I}{h:J}(hf:P.funcs[f]? =some fn)(af:fn.body.isSome=true)(ae:intr f args h=none)(hle:Nat.ble args.length fn.ntmps=true)
  {e:bF}{Γ:Env}{q:bJ}{al:J}(eX:av P fn none (fD P intr n) [] ⟨nQ 0 args,[],.none,h⟩ e ⟨Γ,[],q,al⟩)(he:e=.ret\/e=.nrm){v:I}(h5:na P (d_ fn) fn Γ al=some v):
  fD P intr (n+1) (.fn f) args h=.ret v al:=by
 obtain⟨c,ah⟩:=Option.isSome_iff_exists.1 af
 have sJ:fX fn=c:=by simp[fX,ah]
 unfold av at eX
 rw[sJ] at eX
 simp only[sub] at eX
 exact QA hf ah rfl ae hle eX he h5
theorem QE{intr:Nat->List I->J->Option (I×J)}{f:Nat}{n:Nat}{args:List I}{h:J}(hf:P.funcs[f]? =some fn)(af:fn.body.isSome=true)(ae:intr f args h=none)(hle:Nat.ble args.length fn.ntmps=true)
  {v:I}{Γ:Env}{q:bJ}{al:J}(eX:av P fn none (fD P intr n) [] ⟨nQ 0 args,[],.none,h⟩ (.b9 v) ⟨Γ,[],q,al⟩):fD P intr (n+1) (.fn f) args h=.b9 v al:=by
 obtain⟨c,ah⟩:=Option.isSome_iff_exists.1 af
 have sJ:fX fn=c:=by simp[fX,ah]
 unfold av at eX
 rw[sJ] at eX
 simp only[sub] at eX
 exact QB hf ah rfl ae hle eX
theorem ij{i m:Nat}(ae:i<m)(hm:m<=1000000000000):arith BinOp.add IntKind.i64 (Int.ofNat i) (Int.ofNat 1)=some (I.int IntKind.i64 (Int.ofNat (i+1))):=by
 have h:=rZ (i+1) (by omega)
 have e:Int.ofNat i+Int.ofNat 1=((i+1:Nat):Int):=rfl
 simp only[arith,e,h];rfl
theorem ds{a b:Nat}(h:a<b):bC (Int.ofNat a) (Int.ofNat b)=true:=by simp[bC];omega
theorem eh{a b:Nat}(h:¬a<b):bC (Int.ofNat a) (Int.ofNat b)=false:=by simp[bC];omega
theorem nc{s:List UInt8}{i:Nat}(h:i<s.length):gB i s=some (.int .u8 (Int.ofNat (s[i]).toNat)):=by
 unfold gB
 rw[py,List.getElem?_eq_getElem h]
end
end aD
namespace aD
open Go
structure Ext(B:Nat)(h al:J):Prop where
 n:h.n<=al.n
 get:∀b,b<B->al.get b=h.get b
theorem Ext.refl(B:Nat)(h:J):Ext B h h:=⟨Nat.le_refl _,λ_ _=>rfl⟩
theorem Ext.trans{B lJ:Nat}{h aa ad:J}(bO:B<=lJ)(e:Ext B h aa)(cY:Ext lJ aa ad):Ext B h ad:=⟨Nat.le_trans e.n cY.n,λb af=>(cY.get b (Nat.lt_of_lt_of_le af bO)).trans (e.get b af)⟩
theorem Ext.push{B:Nat}{h:J}(bO:B<=h.n)(o:cx):Ext B h (h.push o):=⟨by simp,λb af=>by rw[J.eA,if_neg (by omega)]⟩
theorem Ext.set{B:Nat}{h:J}{b:Nat}(af:B<=b)(o:Option cx):Ext B h (h.set b o):=⟨by simp,λc ah=>by rw[J.b_,if_neg (by omega)]⟩
theorem Ext.room(B:Nat)(h:J)(k:Nat):Ext B h (h.room k):=⟨by simp,λ_ _=>rfl⟩
theorem zU:∀(l m:List I),takeN l.length (l++m)=some l
 |[],m=>rfl
 |a::l,m=>by simp[takeN,zU l m]
theorem zV{h:J}{b e bf ae:Nat}{k:eC}{xs rest:List I}(aj:h.get b=some (.cells (xs++rest) e k bf ae)):loadCells h b 0 xs.length=some xs:=by
 simp[loadCells,aj,hW,zU]
theorem II:∀(l m:List I) (x y:I) (r:List I),x.bY=true->ff l.length [x] (l++y::r)=some (l++x::r)
 |[],m,x,y,r,ab=>by
  simp only[List.length_nil,List.nil_append]
  cases r with
  |nil=>simp[ff,ab]
  |cons z r=>simp[ff,ab]
 |a::l,m,x,y,r,ab=>by
  have ba:=II l m x y r ab
  simp only[List.length_cons,List.cons_append,ff,ba]
section
variable {P:Program}
theorem w4{h:J}{e bytes size need:Nat}{z:I}{cs:List I}{fz:Nat}(aa:ln need bytes=true)(ad:Nat.beq z.cells.length size=true)(ax:cs.all I.bY=true):ks h e bytes size need z cs fz=some (.slice h.n 0 need (.aY size),h.push (.cells cs e .aY 0 fz)):=by
 unfold ks
 rw[aa,ad,ax];rfl
theorem Dr{h:J}{t:TypeId}{s:List UInt8}{ae:Nat}{dA:IntKind}(hu:P.underlying t=some .string)(ad:ae<=s.length):
  fM P h t (.str s) none (some (.int dA (Int.ofNat ae))) none=some (.str (s.take ae)):=by
 have a8:Nat.ble s.length s.length=true:=by simp
 have aI:Nat.ble ae s.length=true:=by simpa using ad
 have cK:Nat.ble 0 ae=true:=by simp
 simp only[fM,hu,bounds,jH,fB,a8,aI,cK,mW,List.drop_zero,Nat.sub_zero]
theorem QF{h:J}{t:TypeId}{s:List UInt8}{bf:Nat}{k:IntKind}(hu:P.underlying t=some .string)(ad:bf<=s.length):
  fM P h t (.str s) (some (.int k (Int.ofNat bf))) none none=some (.str (s.drop bf)):=by
 have a8:Nat.ble s.length s.length=true:=by simp
 have aI:Nat.ble bf s.length=true:=by simpa using ad
 simp only[fM,hu,bounds,jH,fB,a8,aI,mW]
 rw[List.take_of_length_le (by simp)]
theorem fo{x y:List UInt8}(h:x.length+y.length<=1000000000000):eQ .add x y=some (.str (x++y)):=by
 have:¬(((x.length+y.length:Nat):Int)>IntKind.i64.max):=by
  have e:IntKind.i64.max=9223372036854775807:=rfl
  rw[e];omega
 simp only[eQ,if_neg this]
end
end aD
namespace aD
open Go
variable {P:Program} {call:ay->List I->J->an}
def IJ(l:Nat)(e:bF)(need:Nat)(r:aT)(ps:List Nat)(as cn:Code)(ee:Nat)(h:J):an:=match e with
 |.nrm=>.ret (.bool true) (h.set l (some (.loop .ready none need r ps as cn ee)))
 |.ret=>.ret (.bool false) (h.set l (some (.loop .done (some .ret) need r ps as cn ee)))
 |.exit id=>.ret (.bool false) (h.set l (some (.loop .done (some (.exit id)) need r ps as cn ee)))
 |.b9 v=>.b9 v h
 |.goto _=>.fail "goto in a round"
theorem IK{l need t ee:Nat}{Γ gC Γ2:Env}{as cn:Code}{v:I}{h ad:J}{q aN:bJ}{e:bF}{r:aT}
  (aj:h.get l=some (.loop .ready none need r [t] as cn ee))(hm:Mod r Γ)
  (a2:ck P need (some l) call as ⟨put t v Γ,[],.none,h⟩ .nrm ⟨gC,[],q,h⟩)
  (af:ck P need (some l) call cn ⟨gC,[],.none,h.set l (some (.loop .busy none need r [t] as cn ee))⟩ e ⟨Γ2,[],aN,ad⟩)
  (aw:ad.get l=some (.loop .busy none need r [t] as cn ee)):
  ow P call l [v] h=IJ l e need r [t] as cn ee ad:=by
 obtain⟨bb,aA,cV⟩:=a2 _ (hm.put t v)
 obtain⟨a3,aC,h2⟩:=af _ cV
 simp only at aA aC
 simp only[ow,aj,rU,aA,yK,aC]
 simp only[tR,aw]
 cases e<;>rfl
theorem lK{h:J}{b t:Nat}{x:I}(aj:h.get b=some (.cells [x] t .own 0 0)):aq h b 0=some x:=by
 simp only[aq,aj];rfl
theorem zW{h:J}{b t:Nat}{x y:I}(bg:y.bY=true)(aj:h.get b=some (.cells [x] t .own 0 0)):aD.storeCells h b 0 [y]=some (h.set b (some (.cells [y] t .own 0 0))):=by
 have hw:jf .own 0 0 0 [y].length=true:=rfl
 simp only[aD.storeCells,aj,hw,ff,bg]
end aD
namespace aD
open Go
def W(P:Program)(need:Nat)(rd:Option Nat)(call:ay->List I->J->an)(c:Code)(Q:bF->aT->List b1->bJ->J->Prop)(r:aT)(d:List b1)(q:bJ)(h:J):Prop:=
 ∃e r' bG bP al,dG P need rd call c r d q h=.ok e r' bG bP al/\Q e r' bG bP al
section
variable {P:Program} {need:Nat} {rd:Option Nat} {call:ay->List I->J->an} {fn:Func}
theorem W.of{c:Code}{Q:bF->aT->List b1->bJ->J->Prop}{r:aT}{st cj:ag}{e:bF}(ai:ck P need rd call c st e cj)(hm:Mod r st.Γ)(k:∀r',Mod r' cj.Γ->Q e r' cj.d cj.q cj.h):W P need rd call c Q r st.d st.q st.h:=by
 obtain⟨r',aa,ad⟩:=ai r hm
 exact⟨e,r',_,_,_,aa,k r' ad⟩
theorem W.seq{a b:Code}{Q:bF->aT->List b1->bJ->J->Prop}{r:aT}{d:List b1}{q:bJ}{h:J}
  (hw:W P need rd call a (λe r d q h=>(e=.nrm/\W P need rd call b Q r d q h)\/(e≠ .nrm/\Q e r d q h)) r d q h):W P need rd call (.seq a b) Q r d q h:=by
 obtain⟨e,bb,d1,aV,aa,ad,ax⟩:=hw
 rcases ax with⟨rfl,aC,a3,d2,aN,aO,bZ,dj⟩|⟨dC,bq⟩
 · exact⟨aC,a3,d2,aN,aO,by simp only[dG,ad,pt,bZ],dj⟩
 · exact⟨e,bb,d1,aV,aa,by simp only[dG,ad];exact sh dC,bq⟩
theorem W.block{id:Nat}{b:Code}{Q:bF->aT->List b1->bJ->J->Prop}{r:aT}{d:List b1}{q:bJ}{h:J}
  (hw:W P need rd call b (λe r d q h=>(e=.exit id/\Q .nrm r d q h)\/(e≠ .exit id/\Q e r d q h)) r d q h):W P need rd call (.block id b) Q r d q h:=by
 obtain⟨e,bb,d1,aV,aa,ad,ax⟩:=hw
 rcases ax with⟨rfl,bq⟩|⟨dC,bq⟩
 · exact⟨.nrm,bb,d1,aV,aa,by simp only[dG,ad,if_true],bq⟩
 · refine⟨e,bb,d1,aV,aa,?_,bq⟩
   simp only[dG,ad]
   cases e<;>first|rfl|(rename_i i;exact if_neg λh=>dC (by rw[h]))
abbrev WF(P:Program)(fn:Func)(rd:Option Nat)(call:ay->List I->J->an)(path:List Nat):=W P (d_ fn) rd call (sub (fX fn) path)
theorem WF.seq{p:List Nat}{Q:bF->aT->List b1->bJ->J->Prop}{r:aT}{d:List b1}{q:bJ}{h:J}(hs:w2 (sub (fX fn) p)=true)
  (hw:WF P fn rd call (p++[0]) (λe r d q h=>(e=.nrm/\WF P fn rd call (p++[1]) Q r d q h)\/(e≠ .nrm/\Q e r d q h)) r d q h):WF P fn rd call p Q r d q h:=by
 unfold WF at*
 rw[Dp hs]
 rw[ke,ke] at hw
 exact hw.seq
theorem WF.block{p:List Nat}{id:Nat}{Q:bF->aT->List b1->bJ->J->Prop}{r:aT}{d:List b1}{q:bJ}{h:J}(hs:w3 id (sub (fX fn) p)=true)
  (hw:WF P fn rd call (p++[0]) (λe r d q h=>(e=.exit id/\Q .nrm r d q h)\/(e≠ .exit id/\Q e r d q h)) r d q h):WF P fn rd call p Q r d q h:=by
 unfold WF at*
 rw[Dq hs]
 rw[ke] at hw
 exact hw.block
def Ds(f:Operand)(ps:List Nat):Code->Bool
 |.rangeFunc (.tmp g) sK _ _=>(match f with|.tmp t=>Nat.beq g t|_=>false)&&sK.toList==ps
 |_=>false
theorem QG{c:Code}{t:Nat}{ps:List Nat}(h:Ds (.tmp t) ps c=true):∃sK:Array Nat,sK.toList=ps/\c=.rangeFunc (.tmp t) sK (sub c [0]) (sub c [1]):=by
 unfold Ds at h
 split at h
 · rename_i g sK a b
   simp only[Bool.and_eq_true] at h
   obtain⟨aa,ad⟩:=h
   obtain rfl:=Nat.eq_of_beq_eq_true aa
   exact⟨sK,eq_of_beq ad,by simp[sub]⟩
 · cases h
theorem W.range{f:Operand}{ps:Array Nat}{as cn:Code}{Γ:Env}{Q:bF->aT->List b1->bJ->J->Prop}{r:aT}{d:List b1}{q:bJ}{h:J}{g:Nat}{aM:List I}
  (hf:m9 0 [] Γ (cT P need [] f)=some (.fn g [] aM))(hm:Mod r Γ)
  (ah:∃e al,kR (h.n+1) r (.collected h.n::d) q (call (.fn g) (.cc (h.n+1)::aM) ((h.push (.defrd (some []))).push (.loop .ready none need r ps.toList as cn h.n)))=.ok e r (.collected h.n::d) q al/\Q e r (.collected h.n::d) q al):
  W P need none call (.rangeFunc f ps as cn) Q r d q h:=by
 obtain⟨e,al,c1,c2⟩:=ah
 refine⟨e,r,_,q,al,?_,c2⟩
 have aj:=sG hm hf
 rw[<-c1]
 simp only[dG,vM,aj,rS,nx]
 rfl
theorem WF.range{p:List Nat}{t:Nat}{ps:List Nat}{Γ:Env}{Q:bF->aT->List b1->bJ->J->Prop}{r:aT}{d:List b1}{q:bJ}{h:J}{g:Nat}{aM:List I}(hs:Ds (.tmp t) ps (sub (fX fn) p)=true)
  (aK:Nat.testBit (d_ fn) t=true)(hf:fh t Γ=some (.fn g [] aM))(hm:Mod r Γ)
  (ah:∃e al,kR (h.n+1) r (.collected h.n::d) q (call (.fn g) (.cc (h.n+1)::aM) ((h.push (.defrd (some []))).push (.loop .ready none (d_ fn) r ps (sub (fX fn) (p++[0])) (sub (fX fn) (p++[1])) h.n)))=.ok e r (.collected h.n::d) q al/\Q e r (.collected h.n::d) q al):
  WF P fn none call p Q r d q h:=by
 obtain⟨sK,bq,he⟩:=QG hs
 unfold WF
 rw[ke,ke] at ah
 rw[he]
 subst bq
 refine W.range (Γ:=Γ) ?_ hm ah
 have:cT P (d_ fn) [] (.tmp t)=.reg (gO t):=by
  unfold cT
  simp only[hY,aK]
 rw[this]
 show fh (gO t).num Γ=_
 rw[yO];exact hf
theorem IL{intr:Nat->List I->J->Option (I×J)}{f:Nat}{n:Nat}{args:List I}{h:J}{X:an}(hf:P.funcs[f]? =some fn)(af:fn.body.isSome=true)(ae:intr f args h=none)(hle:Nat.ble args.length fn.ntmps=true)
  (hw:WF P fn none (fD P intr n) [] (λe r d q al=>l7 P (fD P intr n) fn (.ok e r d q al)=X) (ny 0 args .leaf) [] .none h):fD P intr (n+1) (.fn f) args h=X:=by
 obtain⟨c,ah⟩:=Option.isSome_iff_exists.1 af
 have sJ:fX fn=c:=by simp[fX,ah]
 obtain⟨e,r,d,q,al,aa,ad⟩:=hw
 rw[sJ] at aa
 simp only[sub] at aa
 simp only[fD,ae,qt,hf,ah,l6,hle,aa,ad]
end
end aD
namespace aD
open Go
theorem pO:∀l:List UInt8,(c5 l).length=l.length
 |[]=>rfl
 |a::l=>by simp[c5,pO l]
theorem zX:∀l m:List UInt8,c5 (l++m)=c5 l++c5 m
 |[],m=>rfl
 |a::l,m=>by simp[c5,zX l m]
theorem zY:∀l:List UInt8,(c5 l).all I.bY=true
 |[]=>rfl
 |a::l=>by rw[c5,List.all_cons,zY l];rfl
theorem Dt:∀l:List UInt8,mQ (c5 l)=some l
 |[]=>rfl
 |a::l=>by
  have aa:Nat.blt a.toNat 256=true:=by have:=UInt8.toNat_lt a;simp[Nat.blt];omega
  simp only[c5,mQ,Dt l,aa,UInt8.ofNat_toNat]
theorem w5:∀(xs ys:List I),xs.all I.bY=true->xs.length<=ys.length->ff 0 xs ys=some (xs++ys.drop xs.length)
 |[],ys,_,_=>by cases ys<;>simp[ff]
 |x::xs,[],_,h=>by simp at h
 |x::xs,y::ys,ab,h=>by
  simp only[List.all_cons,Bool.and_eq_true] at ab
  have ba:=w5 xs ys ab.2 (by simpa using h)
  simp[ff,ab.1,ba]
theorem w6:∀(l xs ys:List I),xs.all I.bY=true->xs.length<=ys.length->ff l.length xs (l++ys)=some (l++(xs++ys.drop xs.length))
 |[],xs,ys,ab,h=>by simpa using w5 xs ys ab h
 |a::l,[],ys,ab,h=>by simp[ff]
 |a::l,x::xs,ys,ab,h=>by
  have ba:=w6 l (x::xs) ys ab h
  simp only[List.length_cons,List.cons_append,ff] at ba⊢
  rw[ba]
theorem q4{i j:Nat}(h:i+j<9223372036854775808):arith BinOp.add IntKind.i64 (Int.ofNat i) (Int.ofNat j)=some (I.int IntKind.i64 (Int.ofNat (i+j))):=by
 have h:=rZ (i+j) h
 have e:Int.ofNat i+Int.ofNat j=((i+j:Nat):Int):=rfl
 simp only[arith,e,h];rfl
theorem pP{i j:Nat}(aL:j<=i)(h:i<9223372036854775808):arith BinOp.sub IntKind.i64 (Int.ofNat i) (Int.ofNat j)=some (I.int IntKind.i64 (Int.ofNat (i-j))):=by
 have h:=rZ (i-j) (by omega)
 have e:Int.ofNat i-Int.ofNat j=((i-j:Nat):Int):=by
  have aA:Int.ofNat i=(i:Int):=rfl
  have aC:Int.ofNat j=(j:Int):=rfl
  rw[aA,aC];omega
 simp only[arith,e,h];rfl
theorem w7{i j:Nat}(h:i*j<9223372036854775808):arith BinOp.mul IntKind.i64 (Int.ofNat i) (Int.ofNat j)=some (I.int IntKind.i64 (Int.ofNat (i*j))):=by
 have h:=rZ (i*j) h
 have e:Int.ofNat i*Int.ofNat j=((i*j:Nat):Int):=rfl
 simp only[arith,e,h];rfl
theorem iV{a b:Nat}(h:a<=b):dn (Int.ofNat a) (Int.ofNat b)=true:=by simp[dn];omega
theorem js{a b:Nat}(h:¬a<=b):dn (Int.ofNat a) (Int.ofNat b)=false:=by simp[dn];omega
def sL(B e:Nat)(h:J)(v:I)(w:List UInt8):Prop:=
 (v=.a_/\w=[])\/∃c rest,v=.slice c 0 w.length (.aY 1)/\h.get c=some (.cells (c5 w++rest) e .aY 0 0)/\B<=c/\c<h.n
theorem sL.ext{B e:Nat}{h al:J}{v:I}{w:List UInt8}(af:sL B e h v w)(aK:h.n<=al.n)(aj:∀c,B<=c->c<h.n->al.get c=h.get c):sL B e al v w:=by
 rcases af with aa|⟨c,rest,aa,ad,ax,aO⟩
 · exact .inl aa
 · exact .inr ⟨c,rest,aa,(aj c ax aO).trans ad,ax,by omega⟩
section
variable {P:Program}
theorem QH{B:Nat}{h:J}{v:I}{w s:List UInt8}{sT e:TypeId}{xT:Option TypeId}{i:TypeInfo}{z:I}(bO:B<=h.n)(hu:P.underlying sT=some (.slice e))(gQ:oj P xT=true)(ae:P.info? e=some i)(bL:i.size=1)(a4:ew P e=some z)(iA:z.cells.length=1)
  (r2:ln (w.length+s.length) i.bytes=true)(ai:sL B e h v w):
  ∃v' al,gZ P h sT xT v (.str s)=some (v',al)/\sL B e al v' (w++s)/\Ext B h al:=by
 have hh:iK h 1 (.str s)=some (s.length,c5 s):=rfl
 have IM:Nat.beq z.cells.length 1=true:=by rw[iA];rfl
 rcases ai with⟨rfl,rfl⟩|⟨c,rest,rfl,aj,w8,oS⟩
 · cases s with
   |nil=>exact⟨.a_,h,by simp only[gZ,hu,gQ,ae,a4,bL];rfl,.inl ⟨rfl,rfl⟩,Ext.refl _ _⟩
   |cons a s=>
    have QI:ln (a::s).length i.bytes=true:=by simpa using r2
    have e9:=w4 (h:=h) (e:=e) (fz:=0) QI IM (zY (a::s))
    refine⟨.slice h.n 0 (a::s).length (.aY 1),h.push (.cells (c5 (a::s)) e .aY 0 0),?_,.inr ⟨h.n,[],by simp,by rw[J.eA,if_pos rfl];simp,bO,by simp⟩,Ext.push bO _⟩
    rw[<-e9]
    simp only[gZ,hu,gQ,ae,a4,bL,hh]
    rfl
 · cases s with
   |nil=>exact⟨.slice c 0 w.length (.aY 1),h,by simp only[gZ,hu,gQ,ae,a4,bL];rfl,.inr ⟨c,rest,by simp,by simpa using aj,w8,oS⟩,Ext.refl _ _⟩
   |cons a s=>
    have IN:(Nat.beq 1 1&&Nat.blt 0 1)=true:=rfl
    by_cases qG:(a::s).length<=rest.length
    · have pQ:Nat.ble (0+(w.length+(a::s).length)*1) (c5 w++rest).length=true:=by
        simp only[Nat.ble_eq,List.length_append,pO];omega
      have bl:=w6 (c5 w) (c5 (a::s)) rest (zY _) (by rw[pO];exact qG)
      have hw:jf .aY 0 0 (0+w.length*1) (c5 (a::s)).length=true:=by unfold jf;simp
      have wH:ff (0+w.length*1) (c5 (a::s)) (c5 w++rest)=some (c5 w++(c5 (a::s)++rest.drop (c5 (a::s)).length)):=by
       rw[<-bl,pO];simp
      refine⟨.slice c 0 (w.length+(a::s).length) (.aY 1),h.set c (some (.cells (c5 w++(c5 (a::s)++rest.drop (c5 (a::s)).length)) e .aY 0 0)),?_,.inr ⟨c,rest.drop (c5 (a::s)).length,by simp,by rw[J.b_,if_pos rfl,zX];simp,w8,by simpa using oS⟩,Ext.set w8 _⟩
      simp only[gZ,hu,gQ,ae,a4,bL,hh]
      simp only[IN,List.length_cons,aj]
      simp only[List.length_cons] at pQ wH hw
      simp only[pQ,aD.storeCells,aj,hw,wH]
    · have pQ:Nat.ble (0+(w.length+(a::s).length)*1) (c5 w++rest).length=false:=by
        cases af:Nat.ble (0+(w.length+(a::s).length)*1) (c5 w++rest).length with
        |false=>rfl
        |true=>simp only[Nat.ble_eq,List.length_append,pO] at af;omega
      have au:loadCells h c 0 (w.length*1)=some (c5 w):=by
       have:=zV (xs:=c5 w) aj
       rw[pO] at this;simpa using this
      have fQ:(c5 w++c5 (a::s)).all I.bY=true:=by rw[<-zX];exact zY _
      have QJ:(Nat.ble 0 (0+w.length*1)&&Nat.beq e e)=true:=by simp
      have e9:=w4 (h:=h.set c none) (e:=e) (fz:=0-0) r2 IM fQ
      refine⟨.slice (h.set c none).n 0 (w.length+(a::s).length) (.aY 1),(h.set c none).push (.cells (c5 w++c5 (a::s)) e .aY 0 0),?_,.inr ⟨(h.set c none).n,[],by simp,by rw[J.eA,if_pos rfl,zX];simp,by simp;omega,by simp⟩,
       (Ext.set w8 none).trans (Nat.le_refl _) (Ext.push (by simp;omega) _)⟩
      simp only[List.length_cons] at pQ e9
      simp only[gZ,hu,gQ,ae,a4,bL,hh]
      simp only[IN,List.length_cons,aj]
      simp only[pQ,au,QJ,e9]
theorem QK{h:J}{pT u:TypeId}{c e:Nat}{w:List UInt8}{rest:List I}(hw:w≠[])(au:w.length<=100000000000)(hu:P.underlying pT=some (.pointer u))(he:P.underlyingId e=P.underlyingId u)(hs:dt P e=some 1)(aj:h.get c=some (.cells (c5 w++rest) e .aY 0 0)):
  pk P h pT (.ptr c 0) (.int .i64 (Int.ofNat w.length))=some (.str w,h.set c (some (.cells (c5 w++rest) e .fz 0 0))):=by
 have aK:w.length≠0:=by cases w<;>simp at hw⊢
 have a6:takeN w.length (hW 0 (c5 w++rest))=some (c5 w):=by
  have:=zU (c5 w) rest
  rw[pO] at this;exact this
 have hle:Nat.ble w.length 281474976710656=true:=by simp;omega
 simp only[pk,fB,if_neg aK,hu,aj,he,hs,hle,a6,Dt]
 simp
end
end aD
namespace aD
open Go
section
variable {D:Type}
variable {enc:D->List I} {w:Nat}
theorem QL:∀(l m:List I) (n:Nat),l.length=n->takeN n (l++m)=some l
 |l,m,n,h=>by subst h;exact zU l m
theorem IP:∀(l m:List I),hW l.length (l++m)=m
 |[],m=>by cases m<;>rfl
 |a::l,m=>by simp[hW,IP l m]
end
end aD
namespace aD
open Go
theorem zZ(n:Nat)(h:n<18446744073709551616):IntKind.wrap .u64 (n:Int)=(n:Int):=by
 have e:((n:Int) %18446744073709551616)=n:=by omega
 have aC:(2:Int)^64=18446744073709551616:=by rfl
 simp only[IntKind.wrap,IntKind.bits,IntKind.signed,aC,e,Bool.false_and,if_neg Bool.false_ne_true]
theorem wrap_u8(n:Nat):IntKind.wrap .u8 (n:Int)=((n %256:Nat):Int):=by
 have aC:(2:Int)^8=256:=by rfl
 simp only[IntKind.wrap,IntKind.bits,IntKind.signed,aC,Bool.false_and,if_neg Bool.false_ne_true]
 omega
theorem IQ{i j:Nat}(h:i+j<18446744073709551616):arith BinOp.add IntKind.u64 (Int.ofNat i) (Int.ofNat j)=some (I.int IntKind.u64 (Int.ofNat (i+j))):=by
 have h:=zZ (i+j) h
 have e:Int.ofNat i+Int.ofNat j=((i+j:Nat):Int):=rfl
 simp only[arith,e,h];rfl
theorem z0{i j:Nat}(aL:j<=i)(h:i<18446744073709551616):arith BinOp.sub IntKind.u64 (Int.ofNat i) (Int.ofNat j)=some (I.int IntKind.u64 (Int.ofNat (i-j))):=by
 have h:=zZ (i-j) (by omega)
 have e:Int.ofNat i-Int.ofNat j=((i-j:Nat):Int):=by
  have aA:Int.ofNat i=(i:Int):=rfl
  have aC:Int.ofNat j=(j:Int):=rfl
  rw[aA,aC];omega
 simp only[arith,e,h];rfl
theorem IS{i j:Nat}(aL:0<j)(h:i<18446744073709551616):arith BinOp.quo IntKind.u64 (Int.ofNat i) (Int.ofNat j)=some (I.int IntKind.u64 (Int.ofNat (i/j))):=by
 have h:=zZ (i/j) (by have:=Nat.div_le_self i j;omega)
 have e:(Int.ofNat i).tdiv (Int.ofNat j)=((i/j:Nat):Int):=rfl
 have dC:¬(Int.ofNat j=0):=by
  have aA:Int.ofNat j=(j:Int):=rfl
  rw[aA];omega
 simp only[arith,if_neg dC,e,h];rfl
theorem IT(k:IntKind){i j:Nat}(aL:0<j):arith BinOp.rem k (Int.ofNat i) (Int.ofNat j)=some (I.int k (Int.ofNat (i %j))):=by
 have e:(Int.ofNat i).tmod (Int.ofNat j)=((i %j:Nat):Int):=rfl
 have dC:¬(Int.ofNat j=0):=by
  have aA:Int.ofNat j=(j:Int):=rfl
  rw[aA];omega
 simp only[arith,if_neg dC,e];rfl
theorem QM{i j:Nat}:arith BinOp.add IntKind.u8 (Int.ofNat i) (Int.ofNat j)=some (I.int IntKind.u8 (Int.ofNat ((i+j) %256))):=by
 have h:=wrap_u8 (i+j)
 have e:Int.ofNat i+Int.ofNat j=((i+j:Nat):Int):=rfl
 simp only[arith,e,h];rfl
theorem z1(k:IntKind){i j:Nat}(aL:j<=k.bits):mP BinOp.shr k (Int.ofNat i) (Int.ofNat j)=some (I.int k (Int.ofNat (i/2^j))):=by
 have aK:¬(Int.ofNat j<0):=by
  have aA:Int.ofNat j=(j:Int):=rfl
  rw[aA];omega
 have aA:(Int.ofNat j).toNat=j:=rfl
 have aC:min j k.bits=j:=by omega
 have bN:(Int.ofNat i).fdiv (2^j)=((i/2^j:Nat):Int):=by
  have:(2:Int)^j=((2^j:Nat):Int):=by norm_cast
  rw[this]
  show((i:Int)).fdiv ((2^j:Nat):Int)=_
  rw[Int.fdiv_eq_ediv_of_nonneg _ (Int.natCast_nonneg _)]
  rfl
 simp only[mP,if_neg aK,aA,aC,bN];rfl
theorem IU{P:Program}{call:ay->List I->J->an}{l need t ee:Nat}{Γ gC Γ2:Env}{as cn:Code}{v:I}{h aa ad:J}{q aN:bJ}{e:bF}{r:aT}
  (aj:h.get l=some (.loop .ready none need r [t] as cn ee))(hm:Mod r Γ)
  (a2:ck P need (some l) call as ⟨put t v Γ,[],.none,h⟩ .nrm ⟨gC,[],q,aa⟩)(e9:aa.get l=some (.loop .ready none need r [t] as cn ee))
  (af:ck P need (some l) call cn ⟨gC,[],.none,aa.set l (some (.loop .busy none need r [t] as cn ee))⟩ e ⟨Γ2,[],aN,ad⟩)
  (aw:ad.get l=some (.loop .busy none need r [t] as cn ee)):
  ow P call l [v] h=IJ l e need r [t] as cn ee ad:=by
 obtain⟨bb,aA,cV⟩:=a2 _ (hm.put t v)
 obtain⟨a3,aC,h2⟩:=af _ cV
 simp only at aA aC
 simp only[ow,aj,rU,aA,yK,e9,aC]
 simp only[tR,aw]
 cases e<;>rfl
section
variable {P:Program}
theorem z2{a b:TypeId}{ka k dA:IntKind}{n:Int}{h:J}(a2:P.underlying a=some (.int ka))(af:P.underlying b=some (.int dA)){m:Int}(hm:dA.wrap n=m):eR P a b (.int k n) h=.val (.int dA m) h:=by
 simp only[eR,a2,af,hm]
theorem IV{a b e:TypeId}{h:J}{c:Nat}{cap:b5}{w:List UInt8}{rest:List I}{el bf up:Nat}{k:eC}(a2:P.underlying a=some (.slice e))(he:P.underlying e=some (.int .u8))(af:P.underlying b=some .string)(oF:cap=.exact w.length\/cap=.aY 1)
  (aj:h.get c=some (.cells (c5 w++rest) el k bf up)):eR P a b (.slice c 0 w.length cap) h=.val (.str w) h:=by
 have au:loadCells h c 0 w.length=some (c5 w):=by
  have:=zV (xs:=c5 w) aj
  rwa [pO] at this
 rcases oF with rfl|rfl<;>simp only[eR,a2,he,af,au,Dt]
theorem IW:∀(n:Nat) (z:I),eT n [z]=List.replicate n z
 |0,z=>rfl
 |n+1,z=>by rw[eT,IW n z,List.singleton_append,List.replicate_succ]
theorem QN{h:J}{t e:TypeId}{n:Nat}{i:TypeInfo}(hu:P.underlying t=some (.slice e))(ae:P.info? e=some i)(bL:i.size=1)(m8:i.bytes=1)(a4:ew P e=some (.int .u8 (Int.ofNat 0)))(aK:0<n)(hle:n<=1000000):
  uq P h t (.int .i64 (Int.ofNat n)) (.int .i64 (Int.ofNat n))=some (.slice h.n 0 n (.exact n),h.push (.cells (List.replicate n (.int .u8 (Int.ofNat 0))) e .own 0 0)):=by
 have aa:(decide (n<=n)&&Nat.ble (n*(i.bytes+1)) 1099511627776&&Nat.beq (I.cells (.int .u8 (Int.ofNat 0))).length i.size)=true:=by
  rw[m8,bL]
  have:n*(1+1)<=1099511627776:=by omega
  simp[I.cells,this]
 have ad:¬(n*i.size=0):=by rw[bL];omega
 have ax:(List.replicate n (I.int .u8 (Int.ofNat 0))).all I.bY=true:=by
  simp[List.all_replicate,I.bY]
 have aO:eT n (I.cells (.int .u8 (Int.ofNat 0)))=List.replicate n (I.int .u8 (Int.ofNat 0)):=IW n _
 unfold uq
 simp only[hu,fB,ae,a4,aa,if_true,if_neg ad,aO,newRow,ax]
end
end aD
namespace aD
open Go
theorem sM{a b:Nat}(h:a=b):a7 (Int.ofNat a) (Int.ofNat b)=true:=by subst h;simp[a7]
theorem k3{a b:Nat}(h:¬a=b):a7 (Int.ofNat a) (Int.ofNat b)=false:=by
 cases ab:a7 (Int.ofNat a) (Int.ofNat b) with
 |false=>rfl
 |true=>simp[a7] at ab;omega
theorem QO(m l:Nat):jf .own 0 0 m l=true:=by unfold jf;simp
theorem w9(m l:Nat):jf .aY 0 0 m l=true:=by unfold jf;simp
theorem IX{h:J}{b el:Nat}{k:eC}{l r:List I}{x y:I}(aw:k=.own\/k=.aY)(aj:h.get b=some (.cells (l++y::r) el k 0 0)){off:Nat}(bd:off=l.length)(ab:x.bY=true):
  aD.storeCells h b off [x]=some (h.set b (some (.cells (l++x::r) el k 0 0))):=by
 subst bd
 have bl:=II l [] x y r ab
 rcases aw with rfl|rfl
 · have hw:=QO l.length [x].length
   simp only[aD.storeCells,aj,hw,bl]
 · have hw:=w9 l.length [x].length
   simp only[aD.storeCells,aj,hw,bl]
structure fa(p B:Nat)(h al:J):Prop where
 n:h.n<=al.n
 get:∀b,b<B->b≠p->al.get b=h.get b
theorem Ext.pR{B:Nat}{h al:J}(e:Ext B h al)(p:Nat):fa p B h al:=⟨e.n,λb af _=>e.get b af⟩
theorem fa.refl(p B:Nat)(h:J):fa p B h h:=⟨Nat.le_refl _,λ_ _ _=>rfl⟩
theorem fa.trans{p B lJ:Nat}{h aa ad:J}(bO:B<=lJ)(e:fa p B h aa)(cY:fa p lJ aa ad):fa p B h ad:=⟨Nat.le_trans e.n cY.n,λb af bl=>(cY.get b (Nat.lt_of_lt_of_le af bO) bl).trans (e.get b af bl)⟩
theorem fa.set{p B:Nat}{h:J}(o:Option cx):fa p B h (h.set p o):=⟨by simp,λc _ bl=>by rw[J.b_,if_neg bl]⟩
theorem fa.QP{p B:Nat}{h al:J}(e:fa p B h al)(bl:B<=p):Ext B h al:=⟨e.n,λb af=>e.get b af (by omega)⟩
theorem fa.le{p B lJ:Nat}{h al:J}(e:fa p lJ h al)(bO:B<=lJ):fa p B h al:=⟨e.n,λb af=>e.get b (by omega)⟩
theorem Ext.le{B lJ:Nat}{h al:J}(e:Ext lJ h al)(bO:B<=lJ):Ext B h al:=⟨e.n,λb af=>e.get b (by omega)⟩
end aD
namespace aD
open Go
theorem fp{h:J}{o:cx}{b:Nat}(af:b=h.n):(h.push o).get b=some o:=by subst af;rw[J.eA,if_pos rfl]
theorem z3{h:J}{o:cx}{b:Nat}{x:Option cx}(af:b<h.n)(ab:h.get b=x):(h.push o).get b=x:=by rw[J.eA,if_neg (by omega)];exact ab
theorem iF{h:J}{o:cx}{b c:Nat}(af:b=c):(h.set c (some o)).get b=some o:=by subst af;rw[J.b_,if_pos rfl]
theorem mn{h:J}{b c:Nat}{o x:Option cx}(af:¬b=c)(ab:h.get b=x):(h.set c o).get b=x:=by rw[J.b_,if_neg af];exact ab
theorem pS{h:J}{k b:Nat}{x:Option cx}(ab:h.get b=x):(h.room k).get b=x:=ab
theorem aH{h:J}{b off:Nat}{cs:List I}{e bf up:Nat}{k:eC}{v:I}(aj:h.get b=some (.cells cs e k bf up))(aK:nth off cs=some v):aq h b off=some v:=by simp only[aq,aj,aK]
theorem kD{h:J}{b off m:Nat}{cs vs:List I}{e bf up:Nat}{k:eC}(aj:h.get b=some (.cells cs e k bf up))(aK:takeN m (hW off cs)=some vs):aD.loadCells h b off m=some vs:=by simp only[aD.loadCells,aj,aK]
theorem iG{h:J}{b off:Nat}{xs cs b6:List I}{e bf up:Nat}{k:eC}(aj:h.get b=some (.cells cs e k bf up))(hw:jf k bf up off xs.length=true)(bl:ff off xs cs=some b6):aD.storeCells h b off xs=some (h.set b (some (.cells b6 e k bf up))):=by simp only[aD.storeCells,aj,hw,bl]
theorem Ext.hA{B b:Nat}{h g:J}{o:Option cx}(af:B<=b)(e:Ext B h g):Ext B h (g.set b o):=e.trans (Nat.le_refl _) (Ext.set af _)
theorem Ext.mo{B:Nat}{h g:J}{o:cx}(bO:B<=g.n)(e:Ext B h g):Ext B h (g.push o):=e.trans (Nat.le_refl _) (Ext.push bO _)
theorem Ext.ht{B k:Nat}{h g:J}(e:Ext B h g):Ext B h (g.room k):=⟨Nat.le_trans e.n (Nat.le_add_right _ _),e.get⟩
theorem QQ(a:List UInt8):cg a a=true:=by
 induction a with
 |nil=>rfl
 |cons x l ba=>simp[cg,ba]
theorem uz(a b:Int):jh kt (.int .i64 a) [.int .i64 b]=some (.int .i64 (min a b)):=by
 simp only[jh,kt,if_true]
 by_cases h:b<a
 · have au:bC b a=true:=by simp[bC];omega
   rw[if_pos au,Int.min_eq_right (by omega)]
 · have au:¬bC b a=true:=by simp[bC];omega
   rw[if_neg au,Int.min_eq_left (by omega)]
end aD
