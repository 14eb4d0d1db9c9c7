/-
  PROVED HERE: symbolic runs of the evaluator, and that they are sound (Sxa). No condition beside each statement's own.
-/
import Derived.Test.YtfooahfebojldaaGreatDoorAed
set_option linter.unusedVariables false
set_option linter.unusedSimpArgs false
namespace aC
open Go
abbrev Env:=List (Nat×J)
def fV(t:Nat):Env->Option J
 |[]=>none
 |(u,v)::l=>match Nat.beq t u with
  |true=>some v
  |false=>fV t l
def del(t:Nat):Env->Env
 |[]=>[]
 |(u,v)::l=>match Nat.beq t u with
  |true=>del t l
  |false=>(u,v)::del t l
def put(t:Nat)(v:J)(Γ:Env):Env:=(t,v)::del t Γ
def np(Γ:Env):List Nat->Env
 |[]=>[]
 |t::l=>match fV t Γ with
  |some v=>(t,v)::np Γ l
  |none=>np Γ l
def Mod(r:a0)(Γ:Env):Prop:=∀t v,fV t Γ=some v->r.get (hP t)=v
structure af where
 Γ:Env
 d:List bU
 q:bH
 h:aa
inductive Hint where
 |v (v:J)
 |ft (v:J) (h:aa)
 |c (v:J) (h:aa)
 |p (v:J) (h:aa)
 |b (b:Bool)
 |loop (e:bA) (st:af)
 |R9 (v:J) (o:cJ)
 |o (v:J)
 |R_
def e4:List Prop->Prop
 |[]=>True
 |p::l=>p/\e4 l
theorem e4.cons{p:Prop}{l:List Prop}(h:p)(t:e4 l):e4 (p::l):=⟨h,t⟩
theorem e4.nil:e4 []:=trivial
theorem e4.append:∀{l m:List Prop},e4 (l++m)->e4 l/\e4 m
 |[],m,h=>⟨trivial,h⟩
 |p::l,m,h=>⟨⟨h.1,(e4.append h.2).1⟩,(e4.append h.2).2⟩
def n6(m:Nat)(env:List J)(Γ:Env):Acc->Option J
 |.env j=>nth (m-1-j) env
 |.reg p=>fV p.num Γ
 |.val v=>some v
def Ep(o:Oper)(g:Operand->J):Nat:=match o.op with
 |.load .. |.slice .. |.index .. |.indexAddr .. |.lookup .. |.entry .. =>1
 |.binOp op _ x y _=>match op,g x,g y with
  |.eql,.int _ _,.int _ _|.neq,.int _ _,.int _ _|.lss,.int _ _,.int _ _|.leq,.int _ _,.int _ _|.gtr,.int _ _,.int _ _|.geq,.int _ _,.int _ _=>0
  |.eql,.str _,.str _|.neq,.str _,.str _|.lss,.str _,.str _|.leq,.str _,.str _|.gtr,.str _,.str _|.geq,.str _,.str _=>0
  |_,_,_=>1
 |.unOp op _ _=>match op with
  |.not=>0
  |_=>1
 |.convert _ _ x=>match g x with
  |.str _=>2
  |_=>1
 |.range _ x=>match g x with
  |.map _=>2
  |_=>0
 |.store .. |.mapUpdate .. |.mapEntry .. |.entryStore .. |.insert .. |.next .. |.makeSlice .. =>2
 |.call c=>match c.callee with
  |.builtin b=>match b with
   |.len=>match c.args.toList.map g with
    |[.map _]=>1
    |_=>0
   |.cap|.min|.max|.unsafeSliceData=>1
   |.append|.copy|.clear|.delete|.unsafeString=>2
   |_=>0
  |_=>0
 |_=>0
def g1(n:Nat)(s:List UInt8):Option J:=match nth n s with
 |some b=>some (.int .u8 (Int.ofNat b.toNat))
 |none=>none
def o3(P:Program)(o:Oper)(g:Operand->J)(h:aa)(v:J):Prop:=match o.op with
 |.load t a=>match g a,m7 P t,dQ P t with
  |.ptr b off,some false,some _=>av h b off=some v
  |.ptr b off,some true,some n=>match v with
   |.agg cs=>loadCells h b off n=some cs
   |_=>False
  |_,_,_=>False
 |.binOp op t x y _=>match g x,g y with
  |.int k a,.int k' b=>match op with
   |.shl=>l8 .shl k a b=some v
   |.shr=>l8 .shr k a b=some v
   |op=>match decide (k=k') with
    |true=>arith op k a b=some v
    |false=>False
  |.str a,.str b=>fA op a b=some v
  |a,b=>dr P h op t x y a b=some v
 |.slice t x lo hi mx=>d_ P h t (g x) (lo.map g) (hi.map g) (mx.map g)=some v
 |.index t x i=>match P.underlying t,g x,gb (g i) with
  |some .string,.str s,some n=>g1 n s=some v
  |some (.array m e),.agg cs,some n=>match dQ P e with
   |some sz=>n<m/\l7 P e cs (n*sz)=some v
   |none=>False
  |_,_,_=>False
 |.indexAddr t x i=>match P.underlying t,g x,gb (g i) with
  |some (.array m e),.ptr b off,some n=>match dQ P e with
   |some sz=>n<m/\v=.ptr b (off+n*sz)
   |none=>False
  |some (.slice e),.slice b off m c,some n=>match dQ P e with
   |some sz=>n<m/\v=.ptr b (off+n*sz)
   |none=>False
  |_,_,_=>False
 |.lookup t x i ok=>z9 P h t (g x) (g i) ok=some v
 |.entry it=>Ae h (g it)=some v
 |.unOp op _ x=>match op,g x with
  |.neg,.int k n=>v=.int k (k.wrap (0-n))
  |.xor,.int k n=>arith .xor k (if k.signed then-1 else k.max) n=some v
  |_,_=>False
 |.convert src dst x=>ec P src dst (g x) h=.val v h
 |.call c=>match c.callee,c.args.toList.map g,c.argTypes[0]? with
  |.builtin .len,[x],some t=>cq P h t x=some v
  |.builtin .cap,[x],some t=>z4 P t x=some v
  |.builtin .min,x::l,_=>lg mz x l=some v
  |.builtin .max,x::l,_=>lg xk x l=some v
  |.builtin .unsafeSliceData,[x],some t=>jn P .unsafeSliceData #[t] [x] h=.val v h
  |_,_,_=>False
 |_=>False
def vQ(P:Program)(h:aa)(t:TypeId)(l c:J):Option (J×aa):=match P.underlying t,gb l,gb c with
 |some (.slice e),some l,some c=>match P.info? e,fq P e with
  |some i,some z=>if l<=c&&Nat.ble (c*(i.bytes+1)) 1099511627776&&Nat.beq z.cells.length i.size then(match newRow h e (if c*i.size=0 then[] else gv c z.cells) with
   |some (b,an)=>some (.slice b 0 l (.exact c),an)
   |none=>none) else none
  |_,_=>none
 |_,_,_=>none
def JK(h:aa):J->Option (J×aa)
 |.map m=>match h.get m with
  |some (.map _ c)=>some (.ptr h.n 0,h.push (.mapIter (some m) c [] c))
  |_=>none
 |_=>none
def vR(P:Program)(o:Oper)(g:Operand->J)(h:aa)(v:J)(an:aa):Prop:=match o.op with
 |.store t a x=>match g a with
  |.ptr b off=>dQ P t=some (g x).cells.length/\storeCells h b off (g x).cells=some an/\v=.aL []
  |_=>False
 |.convert src dst x=>ec P src dst (g x) h=.val v an
 |.mapUpdate t m k x=>vh P h t (g m) (g k) (g x)=some an/\v=.aL []
 |.insert t m k x=>vh P h t (g m) (g k) (g x)=some an/\v=.aL []
 |.mapEntry t m k=>z_ P h t (g m) (g k)=some (v,an)
 |.entryStore t m s x=>Aa h (g m) (g s) (g x)=some an/\v=.aL []
 |.next it isStr=>Ac h (g it) isStr=some (v,an)
 |.range t x=>match P.underlying t with
  |some (.map _ _)=>JK h (g x)=some (v,an)
  |_=>False
 |.makeSlice t l c=>vQ P h t (g l) (g c)=some (v,an)
 |.call c=>match c.callee,c.args.toList.map g,c.argTypes[0]? with
  |.builtin .append,[x,y],some t=>gf P h t c.argTypes[1]? x y=some (v,an)
  |.builtin .copy,[x,y],some t=>z5 P h t x y=some (v,an)
  |.builtin .clear,[x],some t=>pB P h t x=some (v,an)
  |.builtin .delete,[x,y],some t=>Ab P h t x y=some (v,an)
  |.builtin .unsafeString,[x,y],some t=>qE P h t x y=some (v,an)
  |_,_,_=>False
 |_=>False
inductive nq where
 |ok (v:J) (d:List bU) (q:bH) (h:aa)
 |bp (v:J) (d:List bU) (q:bH) (h:aa)
def nq.res:nq->xr
 |.ok v d q h=>.ok v d q h
 |.bp v d q h=>.bp v d q h
inductive lR(α:Type 1) where
 |c8 (a:α)
 |stop (jL:String) (x:Option Bool)
structure hU(α:Type):Type 1 where
 res:α
 cs:List Prop
 hs:List Hint
structure Sa(l:List J):Prop where
 h:l.all J.cu=true
def Be(call:aE->List J->aa->ao)(pos:String)(f:aE)(args:List J)(d:List bU)(q:bH)(h:aa):List Hint->lR (hU nq)
 |.c v an::hs=>.c8 ⟨.ok v d q an,[call f args h=.ret v an],hs⟩
 |.p v an::hs=>.c8 ⟨.bp v d q an,[call f args h=.bp v an],hs⟩
 |_=>.stop ("call " ++pos) none
def Sb(P:Program)(o:Oper):Bool:=match o.op with
 |.call c=>match c.callee with
  |.builtin b=>match b with
   |.len=>true
   |_=>false
  |_=>false
 |.binOp op t _ _ _=>match op with
  |.eql|.neq=>match P.underlying t with
   |some (.int _)=>false
   |some .string=>false
   |some .bool=>false
   |some _=>true
   |none=>false
  |_=>false
 |_=>false
def Sc(P:Program)(o:Oper):List Hint->Option (J×List Hint)
 |.o v::hs=>match Sb P o with
  |true=>some (v,hs)
  |false=>none
 |_=>none
def JL(o:Oper):List Hint->Option (TypeId×Operand×List Hint)
 |.R_::hs=>match o.op with
  |.box e x=>some (e,x,hs)
  |_=>none
 |_=>none
def Er(P:Program)(inR:Bool)(call:aE->List J->aa->ao)(o:Oper)(g:Operand->J)(d:List bU)(q:bH)(h:aa)(hs:List Hint):lR (hU nq):=
 match Sc P o hs with
 |some (v,hs)=>.c8 ⟨.ok v d q h,[o3 P o g h v],hs⟩
 |none=>match JL o hs with
  |some (e,x,hs)=>.c8 ⟨.ok (.ptr h.n 0) d q (h.push (.cells (g x).cells e .own 0 0)),[Sa (g x).cells],hs⟩
  |none=>match Ep o g with
   |0=>match c0 P o g h with
    |.val v an=>.c8 ⟨.ok v d q an,[],hs⟩
    |.bp v an=>.c8 ⟨.bp v d q an,[],hs⟩
    |.call f args an=>Be call o.pos (.fn f) args d q an hs
    |.ca l args an=>Be call o.pos (.ca l) args d q an hs
    |.j8 x=>match inR with
     |true=>.stop "defer" none
     |false=>.c8 ⟨.ok (.aL []) (x::d) q h,[],hs⟩
    |.s_=>match inR with
     |true=>.stop "recover" none
     |false=>match q with
      |.none=>.c8 ⟨.ok .fy d .none h,[],hs⟩
      |.done v=>.c8 ⟨.ok .fy d (.done v) h,[],hs⟩
      |.act v=>.c8 ⟨.ok v d (.done v) h,[],hs⟩
    |.fail w=>.stop (w++ " " ++o.pos) none
   |1=>match hs with
    |.v v::hs=>.c8 ⟨.ok v d q h,[o3 P o g h v],hs⟩
    |_=>.stop ("value " ++o.pos) none
   |_=>match hs with
    |.ft v an::hs=>.c8 ⟨.ok v d q an,[vR P o g h v an],hs⟩
    |_=>.stop ("value and memory " ++o.pos) none
def Es(o:Oper)(g:Operand->J)(d:List bU)(q:bH)(h:aa)(hs:List Hint):Option (lR (hU nq)):=match o.op with
 |.pick c a b=>match g c with
  |.bool x=>match hs with
   |.b true::hs=>some (.c8 ⟨.ok (g a) d q h,[x=true],hs⟩)
   |.b false::hs=>some (.c8 ⟨.ok (g b) d q h,[x=false],hs⟩)
   |_=>some (.stop ("pick " ++o.pos) (some x))
  |_=>some (.stop ("pick of what " ++o.pos) none)
 |_=>none
def Bf(P:Program)(inR:Bool)(call:aE->List J->aa->ao)(o:Oper)(g:Operand->J)(d:List bU)(q:bH)(h:aa)(hs:List Hint):lR (hU nq):=match Es o g d q h hs with
 |some r=>r
 |none=>Er P inR call o g d q h hs
def vS(P:Program)(inR:Bool)(call:aE->List J->aa->ao)(gd:Option (J×Bool))(o:Oper)(g:Operand->J)(d:List bU)(q:bH)(h:aa)(hs:List Hint):lR (hU nq):=
 match gd with
 |none=>Bf P inR call o g d q h hs
 |some (.bool x,b)=>match hs with
  |.b c::hs=>match c==b with
   |true=>match Bf P inR call o g d q h hs with
    |.c8 ⟨s,cs,hs⟩=>.c8 ⟨s,(x=c)::cs,hs⟩
    |.stop w x=>.stop w x
   |false=>.c8 ⟨.ok (.aL []) d q h,[x=c],hs⟩
  |_=>.stop ("guard " ++o.pos) (some x)
 |some (.aL [],_)=>.c8 ⟨.ok (.aL []) d q h,[],hs⟩
 |_=>.stop ("guard of what " ++o.pos) none
def vT(P:Program)(need m:Nat)(env:List J)(Γ:Env)(loc:List (Nat×Acc))(o:Oper):Bool:=o.op.operands.toList.all λx=>(n6 m env Γ (c_ P need loc x)).isSome
def lS(P:Program)(need m:Nat)(env:List J)(Γ:Env)(loc:List (Nat×Acc))(x:Operand):J:=(n6 m env Γ (c_ P need loc x)).getD .bad
def JM(env:List J)(Γ:Env)(s:Step):Option (Option (J×Bool)):=match s.guard with
 |none=>some none
 |some (a,b)=>match n6 s.m env Γ a with
  |some v=>some (some (v,b))
  |none=>none
def Bg(P:Program)(need:Nat)(inR:Bool)(call:aE->List J->aa->ao)(Γ:Env):List Step->List J->List bU->bH->aa->List Hint->lR (hU m8)
 |[],env,d,q,h,hs=>.c8 ⟨.ok env d q h,[],hs⟩
 |s::rest,env,d,q,h,hs=>
  match vT P need s.m env Γ s.loc s.o with
  |false=>.stop ("an operand " ++s.o.pos) none
  |true=>
   match JM env Γ s with
   |none=>.stop ("guard " ++s.o.pos) none
   |some gd=>match vS P inR call gd s.o (lS P need s.m env Γ s.loc) d q h hs with
    |.c8 ⟨.ok v bO bE an,cs,er⟩=>match Bg P need inR call Γ rest (v::env) bO bE an er with
     |.c8 ⟨x,b9,tT⟩=>.c8 ⟨x,cs++b9,tT⟩
     |.stop w x=>.stop w x
    |.c8 ⟨.bp v bO bE an,cs,er⟩=>.c8 ⟨.bp v bO bE an,cs,er⟩
    |.stop w x=>.stop w x
def tU(need m:Nat)(env:List J)(g2:Env):List (Nat×Acc)->Env->Env
 |[],Γ=>Γ
 |(t,a)::l,Γ=>
  match Nat.testBit need t with
  |true=>match n6 m env g2 a with
   |some v=>put t v (tU need m env g2 l Γ)
   |none=>del t (tU need m env g2 l Γ)
  |false=>tU need m env g2 l Γ
def Bh:List (Nat×Acc)->Env->Env
 |[],Γ=>Γ
 |(t,_)::l,Γ=>del t (Bh l Γ)
def aa.room(h:aa)(k:Nat):aa:=⟨h.t,h.n+k⟩
@[simp] theorem aa.acy (h:aa) (k b:Nat):(h.room k).get b=h.get b:=rfl
@[simp] theorem aa.hh (h:aa) (k:Nat):(h.room k).n=h.n+k:=rfl
abbrev n7:=List (Nat×Nat×aa)
structure kC where
 env:List J
 d:List bU
 q:bH
 h:aa
 bg:n7
def yk(P:Program)(need:Nat)(ops:Array Oper)(n:Nat)(env:List J)(Γ:Env)(s:DStep):Option (Option (J×Bool)):=match kR P need ops s.loc s.o with
 |none=>some none
 |some (a,b)=>match n6 n env Γ a with
  |some v=>some (some (v,b))
  |none=>none
def tV(s:DStep):n7->Bool
 |[]=>true
 |(e,_,_)::_=>Nat.testBit s.fD e
def JN(P:Program)(t:TypeId)(l c:J)(b:Nat):Option (J×cJ):=match P.underlying t,gb l,gb c with
 |some (.slice e),some l,some c=>match P.info? e,fq P e with
  |some i,some z=>match decide (l<=c)&&Nat.ble (c*(i.bytes+1)) 1099511627776&&Nat.beq z.cells.length i.size,(if c*i.size=0 then[] else gv c z.cells) with
   |true,cs=>match cs.all J.cu with
    |true=>some (.slice b 0 l (.exact c),.cells cs e .own 0 0)
    |false=>none
   |_,_=>none
  |_,_=>none
 |_,_,_=>none
def JO(P:Program)(op:Op)(g:Operand->J)(b:Nat)(v:J)(o:cJ):Prop:=match op with
 |.makeSlice t l c=>JN P t (g l) (g c) b=some (v,o)
 |_=>False
theorem JP{P:Program}{op:Op}{g:Operand->J}{b:Nat}{v:J}{o:cJ}(h:JO P op g b v o):lM P op g b=some (v,o):=by
 cases op<;>first|exact h|exact absurd h id
def JQ(P:Program)(gd:Option (J×Bool))(s:DStep)(g:Operand->J)(b:Nat)(st:kC)(hs:List Hint):lR (hU kC):=
 match gd with
 |none=>match hs with
  |.R9 v o::hs=>.c8 ⟨⟨v::st.env,st.d,st.q,st.h.set b (some o),st.bg⟩,[JO P s.o.op g b v o],hs⟩
  |hs=>match lM P s.o.op g b with
   |some (v,o)=>.c8 ⟨⟨v::st.env,st.d,st.q,st.h.set b (some o),st.bg⟩,[],hs⟩
   |none=>.stop ("alloc " ++s.o.pos) none
 |some (.bool x,c)=>match hs with
  |.b y::hs=>match y==c with
   |true=>match lM P s.o.op g b with
    |some (v,o)=>.c8 ⟨⟨v::st.env,st.d,st.q,st.h.set b (some o),st.bg⟩,[x=y],hs⟩
    |none=>.stop ("alloc " ++s.o.pos) none
   |false=>.c8 ⟨⟨.aL []::st.env,st.d,st.q,st.h,st.bg⟩,[x=y],hs⟩
  |_=>.stop ("guard " ++s.o.pos) (some x)
 |some (.aL [],_)=>.c8 ⟨⟨.aL []::st.env,st.d,st.q,st.h,st.bg⟩,[],hs⟩
 |_=>.stop ("guard of what " ++s.o.pos) none
def Bi(P:Program)(need:Nat)(inR:Bool)(call:aE->List J->aa->ao)(ops:Array Oper)(Γ:Env)(c5:Nat)(s:DStep)(st:kC)(hs:List Hint):lR (hU kC):=
 match vT P need s.i st.env Γ s.loc s.o with
 |false=>.stop ("an operand " ++s.o.pos) none
 |true=>match yk P need ops s.i st.env Γ s with
  |none=>.stop ("guard " ++s.o.pos) none
  |some gd=>match kindOf P s.o.op with
   |.alloc=>JQ P gd s (lS P need s.i st.env Γ s.loc) (c5+s.i) st hs
   |.pure=>match vS P inR call gd s.o (lS P need s.i st.env Γ s.loc) st.d st.q st.h hs with
    |.c8 ⟨.ok v _ _ _,cs,er⟩=>.c8 ⟨⟨v::st.env,st.d,st.q,st.h,st.bg⟩,cs,er⟩
    |.c8 ⟨.bp _ _ _ _,_,_⟩=>.stop ("a panic " ++s.o.pos) none
    |.stop w x=>.stop w x
   |.eY=>match tV s st.bg with
    |false=>.stop ("order " ++s.o.pos) none
    |true=>match vS P inR call gd s.o (lS P need s.i st.env Γ s.loc) st.d st.q st.h hs with
     |.c8 ⟨.ok v bO bE an,cs,er⟩=>.c8 ⟨⟨v::st.env,bO,bE,an,(s.i,s.fD,st.h)::st.bg⟩,cs,er⟩
     |.c8 ⟨.bp _ _ _ _,_,_⟩=>.stop ("a panic " ++s.o.pos) none
     |.stop w x=>.stop w x
def Bj(P:Program)(need:Nat)(inR:Bool)(call:aE->List J->aa->ao)(ops:Array Oper)(Γ:Env)(c5:Nat):List DStep->kC->List Hint->lR (hU kC)
 |[],st,hs=>.c8 ⟨st,[],hs⟩
 |s::rest,st,hs=>match Bi P need inR call ops Γ c5 s st hs with
  |.c8 ⟨b_,cs,er⟩=>match Bj P need inR call ops Γ c5 rest b_ er with
   |.c8 ⟨y,b9,tT⟩=>.c8 ⟨y,cs++b9,tT⟩
   |.stop w x=>.stop w x
  |.stop w x=>.stop w x
def Et(P:Program)(need:Nat)(inR:Bool)(call:aE->List J->aa->ao)(ops:Array Oper)(Γ:Env)(s:DStep)(rest:List DStep)(st:kC)(hs:List Hint):lR (hU (J×kC)):=
 match vT P need s.i st.env Γ s.loc s.o with
 |false=>.stop ("an operand " ++s.o.pos) none
 |true=>match yk P need ops s.i st.env Γ s with
  |none=>.stop ("guard " ++s.o.pos) none
  |some gd=>match kindOf P s.o.op with
   |.eY=>match tV s st.bg with
    |false=>.stop ("order " ++s.o.pos) none
    |true=>match vS P inR call gd s.o (lS P need s.i st.env Γ s.loc) st.d st.q st.h hs with
     |.c8 ⟨.bp v bO bE an,cs,er⟩=>match rest.all (λa2=>Nat.testBit a2.fD s.i) with
      |true=>.c8 ⟨(v,⟨st.env,bO,bE,an,(s.i,s.fD,st.h)::st.bg⟩),cs,er⟩
      |false=>.stop ("panic " ++s.o.pos) none
     |_=>.stop ("no panic " ++s.o.pos) none
   |_=>.stop ("no panic " ++s.o.pos) none
def Bk(P:Program)(need:Nat)(inR:Bool)(call:aE->List J->aa->ao)(ops:Array Oper)(Γ:Env)(c5:Nat):List DStep->kC->List Hint->lR (hU (J×kC))
 |[],_,_=>.stop "no panic" none
 |s::rest,st,hs=>match Et P need inR call ops Γ s rest st hs with
  |.c8 y=>.c8 y
  |.stop _ _=>match Bi P need inR call ops Γ c5 s st hs with
   |.c8 ⟨b_,cs,er⟩=>match Bk P need inR call ops Γ c5 rest b_ er with
    |.c8 ⟨y,b9,tT⟩=>.c8 ⟨y,cs++b9,tT⟩
    |.stop w x=>.stop w x
   |.stop w x=>.stop w x
mutual
def J.sound:J->Bool
 |.bad=>false
 |.fn _ a b=>kD a&&kD b
 |.iface _ v=>v.sound
 |.agg l=>kD l
 |.aL l=>kD l
 |_=>true
def kD:List J->Bool
 |[]=>true
 |a::l=>a.sound&&kD l
end
def JR(o:Oper)(g:Operand->J):Option (Bool×J×J):=match o.op with
 |.pick c a b=>match g c with
  |.bool x=>some (x,g a,g b)
  |_=>none
 |_=>none
def isLen(o:Oper):Bool:=match o.op with
 |.call c=>match c.callee with
  |.builtin .len=>true
  |_=>false
 |_=>false
def yl(P:Program)(o:Oper)(g:Operand->J)(h:aa)(v:J):List Prop:=match JR o g with
 |some (x,a,b)=>[v.sound=true,cond x a b=v]
 |none=>match isLen o with
  |true=>[v.sound=true,o3 P o g h v]
  |false=>match Ep o g with
   |1=>[v.sound=true,o3 P o g h v]
   |_=>match c0 P o g h with
    |.val v' _=>[v.sound=true,v'=v]
    |_=>[False]
def lookW(v:J)(q p:Prop):Prop:=match v with
 |.aL []=>q
 |_=>p
def Eu(P:Program)(need:Nat)(ops:Array Oper)(Γ:Env)(n:Nat)(env:List J)(s:DStep)(v:J)(h:aa):List Prop:=
 match vT P need n env Γ s.loc s.o,yk P need ops n env Γ s with
 |true,some gd=>match gd with
  |none=>yl P s.o (lS P need n env Γ s.loc) h v
  |some (.bool x,b)=>[lookW v ((x==b)=false) (e4 (yl P s.o (lS P need n env Γ s.loc) h v))]
  |some (.aL [],_)=>[]
  |_=>[False]
 |_,_=>[False]
def q2(s:DStep)(eF:Option Nat)(bg:n7):Bool:=(match eF with|none=>false|some e=>Nat.testBit s.fD e)||(match bg with|[]=>false|(_,m,_)::_=>Nat.testBit m s.i)
def vU(P:Program)(need:Nat)(ops:Array Oper)(Γ:Env)(n:Nat)(env:List J)(s:DStep)(v:J):Option Nat->aa->n7->List Prop
 |eF,h,bg=>
  (match q2 s eF bg with
   |true=>[]
   |false=>Eu P need ops Γ n env s v h)++
  (match bg with
   |[]=>[]
   |(e,_,an)::rest=>vU P need ops Γ n env s v (some e) an rest)
def Bl(P:Program)(need:Nat)(ops:Array Oper)(Γ:Env)(n:Nat)(env:List J)(h:aa)(bg:n7):List DStep->List Prop
 |[]=>[]
 |s::rest=>(match Nat.blt s.i n,kindOf P s.o.op with
   |true,.pure=>vU P need ops Γ n env s ((nth (n-1-s.i) env).getD .bad) none h bg
   |_,_=>[])++Bl P need ops Γ n env h bg rest
def Bm(P:Program)(need:Nat)(ops:Array Oper)(Γ:Env)(n:Nat)(env:List J)(last:Option Nat)(h:aa)(bg:n7):List DStep->List Prop
 |[]=>[]
 |s::rest=>(match Nat.blt s.i n,kindOf P s.o.op with
   |true,.pure=>vU P need ops Γ n env s ((nth (n-1-s.i) env).getD .bad) last h bg
   |_,_=>[])++Bm P need ops Γ n env last h bg rest
def Ev(P:Program)(need:Nat)(inR:Bool)(call:aE->List J->aa->ao)(ops:Array Oper)(st:af)(hs:List Hint):lR (hU (bA×af)):=
 match Bk P need inR call ops st.Γ st.h.n (fK ops.toList 0 [] []) ⟨[],st.d,st.q,st.h.room ops.size,[]⟩ hs with
 |.c8 ⟨(v,⟨env,d,q,h,(e,m,az)::bg⟩),cs,er⟩=>.c8 ⟨(.bp v,⟨Bh (jC ops.toList 0 []) st.Γ,d,q,h⟩),cs++Bm P need ops st.Γ env.length env (some e) az bg (fK ops.toList 0 [] []),er⟩
 |.c8 _=>.stop "no panic" none
 |.stop w x=>.stop w x
def Ew(P:Program)(need:Nat)(inR:Bool)(call:aE->List J->aa->ao)(ops:Array Oper)(st:af)(hs:List Hint):lR (hU (bA×af)):=
 match Bj P need inR call ops st.Γ st.h.n (fK ops.toList 0 [] []) ⟨[],st.d,st.q,st.h.room ops.size,[]⟩ hs with
 |.c8 ⟨⟨env,d,q,h,bg⟩,cs,er⟩=>.c8 ⟨(.nrm,⟨tU need env.length env st.Γ (jC ops.toList 0 []) st.Γ,d,q,h⟩),cs++Bl P need ops st.Γ env.length env h bg (fK ops.toList 0 [] []),er⟩
 |.stop _ _=>Ev P need inR call ops st hs
def cD(P:Program)(need:Nat)(rd:Option Nat)(call:aE->List J->aa->ao)(c:Code)(st:af)(e:bA)(b_:af):Prop:=
 ∀r,Mod r st.Γ->∃r',ea P need rd call c r st.d st.q st.h=.ok e r' b_.d b_.q b_.h/\Mod r' b_.Γ
def Sd(need:Nat)(Γ:Env)(loc:List (Nat×Acc)):m8->Option (bA×af)
 |.ok env d q h=>some (.nrm,⟨tU need env.length env Γ loc Γ,d,q,h⟩)
 |.bp v d q h=>some (.bp v,⟨Bh loc Γ,d,q,h⟩)
 |.fail _=>none
def mf(P:Program)(need:Nat)(rd:Option Nat)(call:aE->List J->aa->ao):Code->af->List Hint->lR (hU (bA×af))
 |.skip,st,hs=>.c8 ⟨(.nrm,st),[],hs⟩
 |.label _,st,hs=>.c8 ⟨(.nrm,st),[],hs⟩
 |.exit id,st,hs=>.c8 ⟨(.exit id,st),[],hs⟩
 |.ret,st,hs=>.c8 ⟨(.ret,st),[],hs⟩
 |.scope b,st,hs=>mf P need rd call b st hs
 |.region id ops draw,st,hs=>
  match draw with
  |false=>
   match Bg P need rd.isSome call st.Γ (pE P need ops).steps [] st.d st.q st.h hs with
   |.c8 ⟨x,cs,er⟩=>match Sd need st.Γ (pE P need ops).loc x with
    |some r=>.c8 ⟨r,cs,er⟩
    |none=>.stop "region" none
   |.stop w x=>.stop w x
  |true=>Ew P need rd.isSome call ops st hs
 |.seq a b,st,hs=>match mf P need rd call a st hs with
  |.c8 ⟨(.nrm,b_),cs,er⟩=>match mf P need rd call b b_ er with
   |.c8 ⟨r,b9,tT⟩=>.c8 ⟨r,cs++b9,tT⟩
   |.stop w x=>.stop w x
  |x=>x
 |.cond c a b,st,hs=>match n6 0 [] st.Γ (c_ P need [] c) with
  |some (.bool x)=>match hs with
   |.b true::hs=>match mf P need rd call a st hs with
    |.c8 ⟨r,cs,er⟩=>.c8 ⟨r,(x=true)::cs,er⟩
    |.stop w x=>.stop w x
   |.b false::hs=>match mf P need rd call b st hs with
    |.c8 ⟨r,cs,er⟩=>.c8 ⟨r,(x=false)::cs,er⟩
    |.stop w x=>.stop w x
   |_=>.stop "if" (some x)
  |_=>.stop "if what" none
 |.block id b,st,hs=>match mf P need rd call b st hs with
  |.c8 ⟨(.exit i,b_),cs,er⟩=>match Nat.beq i id with
   |true=>.c8 ⟨(.nrm,b_),cs,er⟩
   |false=>.c8 ⟨(.exit i,b_),cs,er⟩
  |x=>x
 |.loop b,st,hs=>match hs with
  |.loop e b_::hs=>.c8 ⟨(e,b_),[cD P need rd call (.loop b) st e b_],hs⟩
  |_=>.stop "loop" none
 |.rangeFunc f ps as cr,st,hs=>match hs with
  |.loop e b_::hs=>.c8 ⟨(e,b_),[cD P need rd call (.rangeFunc f ps as cr) st e b_],hs⟩
  |_=>.stop "range over a function" none
 |.goto _,_,_=>.stop "goto" none
 |.refuse _,_,_=>.stop "refuse" none
end aC
namespace aC
open Go
theorem Ex:∀(p q:iS),p.num=q.num->p=q
 |.here,.here,_=>rfl
 |.here,.l q,h=>by simp only[iS.num] at h;omega
 |.here,.r q,h=>by simp only[iS.num] at h;omega
 |.l p,.here,h=>by simp only[iS.num] at h;omega
 |.r p,.here,h=>by simp only[iS.num] at h;omega
 |.l p,.l q,h=>by rw[Ex p q (by simp only[iS.num] at h;omega)]
 |.r p,.r q,h=>by rw[Ex p q (by simp only[iS.num] at h;omega)]
 |.l p,.r q,h=>by simp only[iS.num] at h;omega
 |.r p,.l q,h=>by simp only[iS.num] at h;omega
theorem JS(p:iS):hP p.num=p:=Ex _ _ (Al _)
theorem tW(t u:Nat):(t=u/\Nat.beq t u=true)\/(t≠u/\Nat.beq t u=false):=by
 by_cases h:t=u
 · exact .inl ⟨h,by simp[h]⟩
 · refine .inr ⟨h,?_⟩
   cases ag:Nat.beq t u with
   |false=>rfl
   |true=>exact absurd (Nat.eq_of_beq_eq_true ag) h
theorem Ey(t u:Nat):∀Γ:Env,fV t (del u Γ)=if t=u then none else fV t Γ
 |[]=>by simp[del,fV]
 |(x,v)::l=>by
  have bt:=Ey t u l
  simp only[del]
  rcases tW u x with⟨e,ag⟩|⟨e,ag⟩
  · rw[ag];simp only[bt,fV]
    subst e
    rcases tW t u with⟨aG,fe⟩|⟨aG,fe⟩
    · rw[if_pos aG,if_pos aG]
    · rw[if_neg aG,if_neg aG,fe]
  · rw[ag];simp only[fV,bt]
    rcases tW t x with⟨aG,fe⟩|⟨aG,fe⟩
    · rw[fe];simp only[]
      rw[if_neg]
      intro h;exact e (by rw[<-h,aG])
    · rw[fe]
theorem Se(t u:Nat)(v:J)(Γ:Env):fV t (put u v Γ)=if t=u then some v else fV t Γ:=by
 simp only[put,fV]
 rcases tW t u with⟨e,ag⟩|⟨e,ag⟩
 · rw[ag,if_pos e]
 · rw[ag,if_neg e,Ey,if_neg e]
theorem Mod.put{r:a0}{Γ:Env}(h:Mod r Γ)(t:Nat)(v:J):Mod (r.set (hP t) v) (put t v Γ):=by
 intro u x ad
 rw[Se] at ad
 rw[a0.bV]
 by_cases e:u=t
 · rw[if_pos e] at ad⊢;cases ad;rfl
 · rw[if_neg e] at ad⊢;exact h u x ad
theorem Mod.del{r:a0}{Γ:Env}(h:Mod r Γ)(t:Nat)(v:J):Mod (r.set (hP t) v) (del t Γ):=by
 intro u x ad
 rw[Ey] at ad
 rw[a0.bV]
 by_cases e:u=t
 · rw[if_pos e] at ad;cases ad
 · rw[if_neg e] at ad⊢;exact h u x ad
theorem Ez(Γ:Env)(t:Nat)(v:J):∀l,fV t (np Γ l)=some v->fV t Γ=some v
 |[],h=>by simp[np,fV] at h
 |u::l,h=>by
  simp only[np] at h
  cases hu:fV u Γ with
  |none=>rw[hu] at h;exact Ez Γ t v l h
  |some x=>
   rw[hu] at h
   simp only[fV] at h
   rcases tW t u with⟨e,ag⟩|⟨e,ag⟩
   · rw[ag] at h;rw[e,hu];exact h
   · rw[ag] at h;exact Ez Γ t v l h
theorem Mod.np{r:a0}{Γ:Env}(h:Mod r Γ)(l:List Nat):Mod r (np Γ l):=λt v bh=>h t v (Ez Γ t v l bh)
theorem tX{m:Nat}{env:List J}{r:a0}{Γ:Env}(hm:Mod r Γ){a:Acc}{v:J}(h:n6 m env Γ a=some v):ez m env r a=v:=by
 cases a with
 |env j=>simp only[n6] at h;simp only[ez,h,Option.getD_some]
 |reg p=>simp only[n6] at h;simp only[ez];rw[<-JS p];exact hm _ _ h
 |val x=>cases h;rfl
section
variable {P:Program}
theorem tY{o:Oper}{g:Operand->J}{h:aa}{v:J}(ai:o3 P o g h v):c0 P o g h=.val v h:=by
 obtain⟨dst,op,type,pos,after,guard⟩:=o
 cases op<;>simp only[o3] at ai<;>(try exact ai.elim)
 case load t a=>
  split at ai
  · rename_i b off n au bl aM
    simp only[c0,au,bl,ai,gy]
  · rename_i b off n au bl aM
    split at ai
    · simp only[c0,au,bl,aM,ai]
    · exact ai.elim
  · exact ai.elim
 case binOp op t x y yt=>
  split at ai
  · rename_i k a k' b ad bu
    split at ai
    · simp only[c0,ad,bu,dr,ai,gy]
    · simp only[c0,ad,bu,dr,ai,gy]
    · rename_i hT kZ
      split at ai
      · rename_i ax
        have gn:k=k':=of_decide_eq_true ax
        simp only[c0,ad,bu,dr]
        cases op<;>first|exact absurd rfl hT|exact absurd rfl kZ|(simp only[if_pos gn,ai,gy])
      · exact ai.elim
  · rename_i a b ad bu
    simp only[c0,ad,bu,dr,ai,gy]
  · simp only[c0,ai,gy]
 case unOp op t x=>
  split at ai
  · rename_i k n ad;simp only[c0,ad,ai]
  · rename_i k n ad;simp only[c0,ad,ai,gy]
  · exact ai.elim
 case slice t x lo hi mx=>simp only[c0,ai,gy]
 case index t x i=>
  split at ai
  · rename_i s n hu ad hi
    unfold g1 at ai
    simp only[c0,hu,ad,hi]
    split at ai
    · rename_i eW ag;cases ai;simp only[ag]
    · cases ai
  · rename_i m e cs n hu ad hi
    split at ai
    · rename_i sz bX
      simp only[c0,hu,ad,hi,bX,if_pos ai.1,ai.2,gy]
    · exact ai.elim
  · exact ai.elim
 case indexAddr t x i=>
  split at ai
  · rename_i m e b off n hu ad hi
    split at ai
    · rename_i sz bX
      simp only[c0,hu,ad,hi,bX,if_pos ai.1,ai.2]
    · exact ai.elim
  · rename_i e b off m c n hu ad hi
    split at ai
    · rename_i sz bX
      simp only[c0,hu,ad,hi,bX,if_pos ai.1,ai.2]
    · exact ai.elim
  · exact ai.elim
 case lookup t x i ok=>simp only[c0,ai,gy]
 case entry it=>simp only[c0,ai,gy]
 case convert src dst x=>simp only[c0,ai]
 case call c=>
  split at ai
  · rename_i x t jW ib bh;simp only[c0,jW,ib,jn,bh,ai,gy]
  · rename_i x t jW ib bh;simp only[c0,jW,ib,jn,bh,ai,gy]
  · rename_i x l _ jW ib;simp only[c0,jW,ib,jn,ai,gy]
  · rename_i x l _ jW ib;simp only[c0,jW,ib,jn,ai,gy]
  · rename_i x t jW ib bh
    simp only[c0,jW,ib]
    simp only[jn,bh] at ai⊢
    exact ai
  · exact ai.elim
theorem JT:∀(n:Nat) (cs b9:List J),eP n [J.bad] cs=some b9->False
 |0,[],_,h=>by simp[eP] at h
 |0,_::_,_,h=>by simp[eP,J.cu] at h
 |_+1,[],_,h=>by simp[eP] at h
 |n+1,c::cs,b9,h=>by
  simp only[eP] at h
  split at h
  · rename_i r al;exact JT n cs r al
  · cases h
theorem Sf{h an:aa}{b off:Nat}(hs:aC.storeCells h b off (J.cells .bad)=some an):False:=by
 unfold aC.storeCells at hs
 split at hs
 · split at hs
   · split at hs
     · rename_i aU;exact JT _ _ _ aU
     · cases hs
   · cases hs
 · cases hs
theorem EA{o:Oper}{g:Operand->J}{h an:aa}{v:J}(ai:vR P o g h v an):c0 P o g h=.val v an:=by
 obtain⟨dst,op,type,pos,after,guard⟩:=o
 cases op<;>simp only[vR] at ai<;>(try exact ai.elim)
 case store t a x=>
  split at ai
  · rename_i b off au
    obtain⟨ab,ae,rfl⟩:=ai
    simp only[c0,au]
    rw[ab]
    have ag:g x≠ .bad:=λag=>by
     rw[ag] at ae
     exact Sf ae
    cases eR:g x<;>first|exact absurd eR ag|(rw[eR] at ae;simp[ae,qG])
  · exact ai.elim
 case convert src dst x=>simp only[c0,ai]
 case mapUpdate t m k x=>obtain⟨ab,rfl⟩:=ai;simp only[c0,ab,qG]
 case insert t m k x=>obtain⟨ab,rfl⟩:=ai;simp only[c0,ab,qG]
 case mapEntry t m k=>simp only[c0,ai,l9]
 case entryStore t m s x=>obtain⟨ab,rfl⟩:=ai;simp only[c0,ab,qG]
 case next it isStr=>simp only[c0,ai,l9]
 case range t x=>
  split at ai
  · rename_i dx jN hu
    unfold JK at ai
    split at ai
    · rename_i m au
      split at ai
      · rename_i es c hm
        cases ai
        simp only[c0,hu,au,hm]
      · cases ai
    · cases ai
  · exact ai.elim
 case makeSlice t l c=>
  unfold vQ at ai
  simp only[c0]
  split at ai
  · rename_i e pV c' hu aD yf
    split at ai
    · rename_i i z hi bj
      simp only[hu,aD,yf,hi,bj]
      split at ai
      · rename_i lj
        rw[if_pos lj]
        split at ai
        · rename_i b ah aM;cases ai;simp only[aM]
        · cases ai
      · cases ai
    · cases ai
  · cases ai
 case call c=>
  split at ai
  · rename_i x y t jW ib bh;simp only[c0,jW,ib,jn,bh,ai,l9]
  · rename_i x y t jW ib bh;simp only[c0,jW,ib,jn,bh,ai,l9]
  · rename_i x t jW ib bh;simp only[c0,jW,ib,jn,bh,ai,l9]
  · rename_i x y t jW ib bh;simp only[c0,jW,ib,jn,bh,ai,l9]
  · rename_i x y t jW ib bh;simp only[c0,jW,ib,jn,bh,ai,l9]
  · exact ai.elim
variable {inR:Bool} {call:aE->List J->aa->ao}
theorem JU{pos:String}{f:aE}{args:List J}{d:List bU}{q:bH}{h:aa}{hs:List Hint}{y:hU nq}(ad:Be call pos f args d q h hs=.c8 y)(ai:e4 y.cs):xt d q (call f args h)=y.res.res:=by
 unfold Be at ad
 split at ad
 · cases ad;rw[ai.1];rfl
 · cases ad;rw[ai.1];rfl
 · cases ad
theorem Sg{o:Oper}{g:Operand->J}{d:List bU}{q:bH}{h:aa}{hs:List Hint}{y:hU nq}(ad:Er P inR call o g d q h hs=.c8 y)(ai:e4 y.cs):
  eA P inR call none o g d q h=y.res.res:=by
 unfold Er at ad
 unfold eA
 simp only[e_]
 split at ad
 · cases ad
   rw[tY ai.1];rfl
 · split at ad
   · rename_i e x er bB
     cases ad
     have ab:(g x).cells.all J.cu=true:=ai.1.h
     have he:o.op=.box e x:=by
      unfold JL at bB
      split at bB
      · split at bB
        · rename_i he;cases bB;exact he
        · cases bB
      · cases bB
     have:c0 P o g h=.val (.ptr h.n 0) (h.push (.cells (g x).cells e .own 0 0)):=by
      unfold c0;rw[he];simp only[newRow,ab]
     rw[this];rfl
   · split at ad
     · split at ad
       · rename_i hc;cases ad;rw[hc];rfl
       · rename_i hc;cases ad;rw[hc];rfl
       · rename_i hc;rw[hc];exact JU ad ai
       · rename_i hc;rw[hc];exact JU ad ai
       · rename_i z hc
         split at ad
         · cases ad
         · cases ad;rw[hc];rfl
       · rename_i hc
         split at ad
         · cases ad
         · split at ad
           · cases ad;rw[hc];rfl
           · cases ad;rw[hc];rfl
           · cases ad;rw[hc];rfl
       · cases ad
     · split at ad
       · cases ad
         rw[tY ai.1];rfl
       · cases ad
     · split at ad
       · cases ad
         rw[EA ai.1];rfl
       · cases ad
theorem JV{o:Oper}{g:Operand->J}{d:List bU}{q:bH}{h:aa}{hs:List Hint}{y:hU nq}(ad:Bf P inR call o g d q h hs=.c8 y)(ai:e4 y.cs):
  eA P inR call none o g d q h=y.res.res:=by
 unfold Bf at ad
 cases aU:Es o g d q h hs with
 |none=>rw[aU] at ad;exact Sg ad ai
 |some z=>
  rw[aU] at ad
  simp only at ad
  subst ad
  unfold Es at aU
  split at aU
  · rename_i g3 a b gO
    split at aU
    · rename_i eW au
      split at aU
      · cases aU
        obtain⟨rfl,_⟩:=ai
        unfold eA c0
        simp[e_,gO,au,nq.res]
      · cases aU
        obtain⟨rfl,_⟩:=ai
        unfold eA c0
        simp[e_,gO,au,nq.res]
      · cases aU
    · cases aU
  · cases aU
theorem vV{gd:Option (J×Bool)}(hw:e_ gd=some true)(o:Oper)(g:Operand->J)(d:List bU)(q:bH)(h:aa):eA P inR call gd o g d q h=eA P inR call none o g d q h:=by
 unfold eA
 rw[hw]
 rfl
theorem ym{gd:Option (J×Bool)}(hw:e_ gd=some false)(o:Oper)(g:Operand->J)(d:List bU)(q:bH)(h:aa):eA P inR call gd o g d q h=.ok (.aL []) d q h:=by
 unfold eA
 simp only[hw]
theorem yn{gd:Option (J×Bool)}{o:Oper}{g:Operand->J}{d:List bU}{q:bH}{h:aa}{hs:List Hint}{y:hU nq}(ad:vS P inR call gd o g d q h hs=.c8 y)(ai:e4 y.cs):
  eA P inR call gd o g d q h=y.res.res:=by
 unfold vS at ad
 split at ad
 · exact JV ad ai
 · rename_i acz b
   split at ad
   · rename_i c hT
     split at ad
     · rename_i rZ
       split at ad
       · rename_i s kz kZ eV
         cases ad
         obtain⟨rfl,p8⟩:=ai
         rw[vV (by simp only[e_];rw[rZ])]
         exact(JV eV p8:)
       · cases ad
     · rename_i rZ
       cases ad
       obtain⟨rfl,_⟩:=ai
       rw[ym (by simp only[e_];rw[rZ])];rfl
   · cases ad
 · cases ad
   rw[ym rfl];rfl
 · cases ad
variable {need:Nat}
theorem Bn{m:Nat}{env:List J}{r:a0}{Γ:Env}(hm:Mod r Γ){loc:List (Nat×Acc)}{o:Oper}(ax:vT P need m env Γ loc o=true):∀x∈o.op.operands,ez m env r (c_ P need loc x)=lS P need m env Γ loc x:=by
 intro x ad
 unfold vT at ax
 rw[List.all_eq_true] at ax
 have:=ax x (by simpa using ad)
 obtain⟨v,aJ⟩:=Option.isSome_iff_exists.1 this
 unfold lS
 rw[aJ,tX hm aJ];rfl
theorem JW{r:a0}{Γ:Env}(hm:Mod r Γ):∀(l:List Step) (env:List J) (d:List bU) (q:bH) (h:aa) (hs:List Hint) (y:hU m8),Bg P need inR call Γ l env d q h hs=.c8 y->e4 y.cs->
  kS P need inR call r l env d q h=y.res
 |[],env,d,q,h,hs,y,ad,ai=>by cases ad;rfl
 |s::rest,env,d,q,h,hs,y,ad,ai=>by
  simp only[Bg] at ad
  split at ad
  · cases ad
  · rename_i ax
    split at ad
    · cases ad
    · rename_i gd hS
      have key:∀z,eA P inR call gd s.o (lS P need s.m env Γ s.loc) d q h=z->kS P need inR call r (s::rest) env d q h=match z with
        |.ok v bO bE an=>kS P need inR call r rest (v::env) bO bE an
        |.bp v bO bE an=>.bp v bO bE an
        |.fail w=>.fail w:=λz bj=>by
       simp only[kS]
       rw[<-bj,<-tN (Bn hm ax)]
       unfold JM at hS
       cases Ee:s.guard with
       |none=>rw[Ee] at hS;cases hS;rfl
       |some p=>
        obtain⟨a,b⟩:=p
        rw[Ee] at hS
        simp only at hS
        cases aJ:n6 s.m env Γ a with
        |none=>rw[aJ] at hS;cases hS
        |some v=>rw[aJ] at hS;cases hS;simp only[tX hm aJ];rfl
      split at ad
      · rename_i v bO bE an kz hT hd
        split at ad
        · rename_i z yo kZ rW
          cases ad
          obtain⟨c1,c2⟩:=e4.append ai
          have ab:=yn hd c1
          have hG:eA P inR call gd s.o (lS P need s.m env Γ s.loc) d q h=.ok v bO bE an:=ab
          rw[key _ hG]
          exact(JW hm rest (v::env) bO bE an hT _ rW c2:)
        · cases ad
      · rename_i v bO bE an kz hT hd
        cases ad
        have ab:=yn hd ai
        have hG:eA P inR call gd s.o (lS P need s.m env Γ s.loc) d q h=.bp v bO bE an:=ab
        rw[key _ hG]
      · cases ad
theorem EB{m:Nat}{env:List J}{gw:a0}{g2:Env}(hm:Mod gw g2):∀(l:List (Nat×Acc)) (r:a0) (Γ:Env),Mod r Γ->Mod (qH need m env gw l r) (tU need m env g2 l Γ)
 |[],r,Γ,h=>h
 |(t,a)::l,r,Γ,h=>by
  have bt:=EB (m:=m) (env:=env) hm l r Γ h
  simp only[qH,tU]
  cases Nat.testBit need t with
  |false=>exact bt
  |true=>
   simp only
   cases au:n6 m env g2 a with
   |some v=>simp only;rw[tX hm au];exact bt.put t v
   |none=>simp only;exact bt.del t _
theorem EC:∀(l:List (Nat×Acc)) (r:a0) (Γ:Env),Mod r Γ->Mod (vj l r) (Bh l Γ)
 |[],r,Γ,h=>h
 |(t,a)::l,r,Γ,h=>(EC l r Γ h).del t _
mutual
theorem tZ:∀v:J,v.sound=true->J.beq v v=true
 |.bool b,_=>by simp[J.beq]
 |.int k n,_=>by simp[J.beq,ba]
 |.str s,_=>by simp[J.beq,oR]
 |.bb,_=>rfl
 |.ptr a i,_=>by simp[J.beq]
 |.aA,_=>rfl
 |.slice a i n c,_=>by cases c<;>simp[J.beq,cE.beq]
 |.iR,_=>rfl
 |.map a,_=>by simp[J.beq]
 |.gj,_=>rfl
 |.fn f a b,h=>by
  simp only[J.sound,Bool.and_eq_true] at h
  simp only[J.beq,yp a h.1,yp b h.2,Bool.and_true]
  simp
 |.ca a,_=>by simp[J.beq]
 |.fy,_=>rfl
 |.iface t v,h=>by
  simp only[J.sound] at h
  simp only[J.beq,tZ v h,Bool.and_true]
  simp
 |.agg l,h=>by
  simp only[J.sound] at h
  simp only[J.beq,yp l h]
 |.aL l,h=>by
  simp only[J.sound] at h
  simp only[J.beq,yp l h]
 |.bad,h=>by simp[J.sound] at h
theorem yp:∀l:List J,kD l=true->J.nS l l=true
 |[],_=>rfl
 |a::l,h=>by
  simp only[kD,Bool.and_eq_true] at h
  simp only[J.nS,tZ a h.1,yp l h.2,Bool.and_true]
end
theorem ED{ops:Array Oper}{r:a0}{Γ:Env}(hm:Mod r Γ){n:Nat}{env:List J}{s:DStep}{gd:Option (J×Bool)}(h:yk P need ops n env Γ s=some gd):hD P need ops r n env s=gd:=by
 unfold yk at h
 unfold hD
 split at h
 · rename_i au;rw[au];cases h;rfl
 · rename_i a b au
   rw[au]
   split at h
   · rename_i v aJ
     cases h
     simp only[tX hm aJ]
   · cases h
def Sh(P:Program)(need:Nat)(inR:Bool)(call:aE->List J->aa->ao)(ops:Array Oper)(r:a0)(c5:Nat)(s:DStep)(st b_:kC):Prop:=
 ∀rest,gT P need inR call ops r c5 (s::rest) st.env st.d st.q st.h st.bg=gT P need inR call ops r c5 rest b_.env b_.d b_.q b_.h b_.bg
theorem JX{ops:Array Oper}{r:a0}{Γ:Env}(hm:Mod r Γ){c5:Nat}{s:DStep}{st:kC}{hs:List Hint}{y:hU kC}(ad:Bi P need inR call ops Γ c5 s st hs=.c8 y)(ai:e4 y.cs):Sh P need inR call ops r c5 s st y.res:=by
 intro rest
 unfold Bi at ad
 split at ad
 · cases ad
 · rename_i ax
   have au:=Bn hm ax
   split at ad
   · cases ad
   · rename_i gd hS
     have aj:=ED hm hS
     split at ad
     · rename_i hV
       have bl:=x9 (P:=P) (o:=s.o.op) (b:=c5+s.i) au
       simp only[gT,hV,aj]
       rw[bl]
       unfold JQ at ad
       split at ad
       · split at ad
         · cases ad
           have jG:=JP ai.1
           simp only[e_,jG]
         · split at ad
           · rename_i v o jG
             cases ad
             simp only[e_,jG]
           · cases ad
       · split at ad
         · rename_i x c _ iy hT
           split at ad
           · rename_i EE
             split at ad
             · rename_i v o jG
               cases ad
               obtain⟨rfl,_⟩:=ai
               simp only[e_,EE,jG]
             · cases ad
           · rename_i EE
             cases ad
             obtain⟨rfl,_⟩:=ai
             simp only[e_,EE]
         · cases ad
       · cases ad
         simp only[e_]
       · cases ad
     · rename_i hV
       simp only[gT,hV,aj]
       rw[tN au]
       split at ad
       · rename_i v bO bE an kz hT hd
         cases ad
         have ab:=yn hd ai
         have hG:eA P inR call gd s.o (lS P need s.i st.env Γ s.loc) st.d st.q st.h=.ok v bO bE an:=ab
         rw[hG]
       · cases ad
       · cases ad
     · rename_i hV
       split at ad
       · cases ad
       · rename_i me
         simp only[gT,hV,aj]
         rw[tN au]
         split at ad
         · rename_i v bO bE an kz hT hd
           cases ad
           have ab:=yn hd ai
           have hG:eA P inR call gd s.o (lS P need s.i st.env Γ s.loc) st.d st.q st.h=.ok v bO bE an:=ab
           rw[hG]
           cases cL:st.bg with
           |nil=>rfl
           |cons a l=>
            obtain⟨e,m,ah⟩:=a
            rw[cL] at me
            simp only[tV] at me
            simp only[me]
         · cases ad
         · cases ad
theorem JY{ops:Array Oper}{r:a0}{Γ:Env}(hm:Mod r Γ){c5:Nat}:∀(l:List DStep) (st:kC) (hs:List Hint) (y:hU kC),Bj P need inR call ops Γ c5 l st hs=.c8 y->e4 y.cs->
  gT P need inR call ops r c5 l st.env st.d st.q st.h st.bg=.ok y.res.env y.res.d y.res.q y.res.h y.res.bg
 |[],st,hs,y,ad,ai=>by cases ad;rfl
 |s::rest,st,hs,y,ad,ai=>by
  simp only[Bj] at ad
  split at ad
  · rename_i st1 kz hT ab
    split at ad
    · rename_i eK yo kZ ae
      cases ad
      obtain⟨c1,c2⟩:=e4.append ai
      rw[JX hm ab c1 rest]
      exact(JY hm rest st1 hT ⟨eK,yo,kZ⟩ ae c2:)
    · cases ad
  · cases ad
theorem Si{o:Oper}{g:Operand->J}{h:aa}{v:J}(ai:e4 (yl P o g h v)):∃v' an,c0 P o g h=.val v' an/\J.beq v' v=true:=by
 unfold yl at ai
 split at ai
 · rename_i x a b aU
   obtain⟨ab,ae,_⟩:=ai
   refine⟨v,h,?_,tZ v ab⟩
   unfold JR at aU
   split at aU
   · rename_i c dM pP a7
     split at aU
     · rename_i x' Bo
       cases aU
       cases x<;>simp only[c0,a7,Bo]<;>rw[<-ae]<;>rfl
     · cases aU
   · cases aU
 split at ai
 · exact⟨v,h,tY ai.2.1,tZ v ai.1⟩
 split at ai
 · exact⟨v,h,tY ai.2.1,tZ v ai.1⟩
 · split at ai
   · rename_i v' an he
     obtain⟨ab,rfl,_⟩:=ai
     exact⟨v',an,he,tZ v' ab⟩
   · exact ai.1.elim
theorem JZ{ops:Array Oper}{r:a0}{Γ:Env}(hm:Mod r Γ){n:Nat}{env:List J}{s:DStep}{v:J}{h:aa}(ai:e4 (Eu P need ops Γ n env s v h)):mB P need ops r n env s v h=true:=by
 unfold Eu at ai
 unfold mB
 split at ai
 · rename_i gd ax hS
   rw[ED hm hS]
   have au:=Bn hm ax
   have key:e4 (yl P s.o (lS P need n env Γ s.loc) h v)->(match c0 P s.o (λx=>ez n env r (c_ P need s.loc x)) h with
     |.val v' _=>J.beq v' v
     |_=>false)=true:=λaD=>by
    rw[x8 s.o h au]
    obtain⟨v',an,aF,aG⟩:=Si aD
    rw[aF];exact aG
   split at ai
   · simp only[e_];exact key ai
   · rename_i x b
     simp only[e_]
     obtain⟨ai,_⟩:=ai
     unfold lookW at ai
     split at ai
     · rw[ai]
     · cases Ip:(x==b) with
       |false=>rfl
       |true=>exact key ai
   · rfl
   · exact ai.1.elim
 · exact ai.1.elim
theorem Bp{ops:Array Oper}{r:a0}{n:Nat}{env:List J}{s:DStep}{v:J}(eF:Option Nat)(h:aa)(bg:n7):lN P need ops r n env s v eF h bg=
  ((match q2 s eF bg with|true=>true|false=>mB P need ops r n env s v h)&&(match bg with|[]=>true|(e,_,an)::rest=>lN P need ops r n env s v (some e) an rest)):=by
 cases bg<;>(rw[lN.eq_def];rfl)
theorem EF{ops:Array Oper}{r:a0}{Γ:Env}(hm:Mod r Γ){n:Nat}{env:List J}{s:DStep}{v:J}:∀(bg:n7) (eF:Option Nat) (h:aa),e4 (vU P need ops Γ n env s v eF h bg)->lN P need ops r n env s v eF h bg=true
 |[],eF,h,ai=>by
  rw[Bp]
  unfold vU at ai
  obtain⟨c1,_⟩:=e4.append ai
  cases ag:q2 s eF [] with
  |true=>rfl
  |false=>rw[ag] at c1;simp only[Bool.and_true];exact JZ hm c1
 |(e,m,an)::rest,eF,h,ai=>by
  rw[Bp]
  unfold vU at ai
  obtain⟨c1,c2⟩:=e4.append ai
  have bt:=EF hm rest (some e) an c2
  cases ag:q2 s eF ((e,m,an)::rest) with
  |true=>simp only[Bool.true_and];exact bt
  |false=>
   rw[ag] at c1
   simp only
   rw[JZ hm c1,Bool.true_and];exact bt
theorem J0{ops:Array Oper}{r:a0}{Γ:Env}(hm:Mod r Γ){n:Nat}{env:List J}{h:aa}{bg:n7}:∀(l:List DStep),e4 (Bl P need ops Γ n env h bg l)->l_ P need ops r n env none h bg l=true
 |[],_=>rfl
 |s::rest,ai=>by
  simp only[Bl] at ai
  obtain⟨c1,c2⟩:=e4.append ai
  simp only[l_]
  rw[J0 hm rest c2,Bool.and_true]
  cases ab:Nat.blt s.i n with
  |false=>rfl
  |true=>
   rw[ab] at c1
   cases ae:kindOf P s.o.op with
   |pure=>rw[ae] at c1;exact EF hm bg none h c1
   |alloc=>rfl
   |eY=>rfl
theorem Sj{ops:Array Oper}{r:a0}{Γ:Env}(hm:Mod r Γ){c5:Nat}{s:DStep}{rest:List DStep}{st:kC}{hs:List Hint}{y:hU (J×kC)}(ad:Et P need inR call ops Γ s rest st hs=.c8 y)(ai:e4 y.cs):
  gT P need inR call ops r c5 (s::rest) st.env st.d st.q st.h st.bg=.bp y.res.1 y.res.2.env y.res.2.d y.res.2.q y.res.2.h y.res.2.bg:=by
 unfold Et at ad
 split at ad
 · cases ad
 · rename_i ax
   have au:=Bn hm ax
   split at ad
   · cases ad
   · rename_i gd hS
     have aj:=ED hm hS
     split at ad
     · rename_i hV
       split at ad
       · cases ad
       · rename_i me
         simp only[gT,hV,aj]
         rw[tN au]
         split at ad
         · rename_i v bO bE an kz hT hd
           split at ad
           · rename_i gm
             cases ad
             have ab:=yn hd ai
             have hG:eA P inR call gd s.o (lS P need s.i st.env Γ s.loc) st.d st.q st.h=.bp v bO bE an:=ab
             rw[hG]
             cases cL:st.bg with
             |nil=>simp only[gm]
             |cons a l=>
              obtain⟨e,m,ah⟩:=a
              rw[cL] at me
              simp only[tV] at me
              simp only[me,gm]
           · cases ad
         · cases ad
     · cases ad
theorem J1{ops:Array Oper}{r:a0}{Γ:Env}(hm:Mod r Γ){c5:Nat}:∀(l:List DStep) (st:kC) (hs:List Hint) (y:hU (J×kC)),Bk P need inR call ops Γ c5 l st hs=.c8 y->e4 y.cs->
  gT P need inR call ops r c5 l st.env st.d st.q st.h st.bg=.bp y.res.1 y.res.2.env y.res.2.d y.res.2.q y.res.2.h y.res.2.bg
 |[],st,hs,y,ad,ai=>by cases ad
 |s::rest,st,hs,y,ad,ai=>by
  simp only[Bk] at ad
  split at ad
  · rename_i iy ab
    cases ad
    exact Sj hm ab ai
  · split at ad
    · rename_i st1 kz hT ab
      split at ad
      · rename_i eK yo kZ ae
        cases ad
        obtain⟨c1,c2⟩:=e4.append ai
        rw[JX hm ab c1 rest]
        exact(J1 hm rest st1 hT ⟨eK,yo,kZ⟩ ae c2:)
      · cases ad
    · cases ad
theorem J2{ops:Array Oper}{r:a0}{Γ:Env}(hm:Mod r Γ){n:Nat}{env:List J}{last:Option Nat}{h:aa}{bg:n7}:∀(l:List DStep),e4 (Bm P need ops Γ n env last h bg l)->l_ P need ops r n env last h bg l=true
 |[],_=>rfl
 |s::rest,ai=>by
  simp only[Bm] at ai
  obtain⟨c1,c2⟩:=e4.append ai
  simp only[l_]
  rw[J2 hm rest c2,Bool.and_true]
  cases ab:Nat.blt s.i n with
  |false=>rfl
  |true=>
   rw[ab] at c1
   cases ae:kindOf P s.o.op with
   |pure=>rw[ae] at c1;exact EF hm bg last h c1
   |alloc=>rfl
   |eY=>rfl
theorem Sk{id:Nat}{ops:Array Oper}{rd:Option Nat}{st:af}{hs:List Hint}{y:hU (bA×af)}(ad:Ev P need rd.isSome call ops st hs=.c8 y)(ai:e4 y.cs):cD P need rd call (.region id ops true) st y.res.1 y.res.2:=by
 unfold Ev at ad
 split at ad
 · rename_i v env d q h e m az bg kz hT aj
   cases ad
   obtain⟨c1,c2⟩:=e4.append ai
   intro r hm
   have ab:=J1 hm _ _ _ _ aj c1
   have ae:=J2 hm _ c2
   simp only at ab
   refine⟨_,?_,EC _ _ _ hm⟩
   have hG:gT P need rd.isSome call ops r st.h.n (fK ops.toList 0 [] []) [] st.d st.q ⟨st.h.t,st.h.n+ops.size⟩ []=.bp v env d q h ((e,m,az)::bg):=ab
   simp only[ea,tc,hG,ae,qI]
 · cases ad
 · cases ad
theorem Sl{id:Nat}{ops:Array Oper}{rd:Option Nat}{st:af}{hs:List Hint}{y:hU (bA×af)}(ad:Ew P need rd.isSome call ops st hs=.c8 y)(ai:e4 y.cs):cD P need rd call (.region id ops true) st y.res.1 y.res.2:=by
 unfold Ew at ad
 split at ad
 · rename_i env d q h bg kz hT aj
   cases ad
   obtain⟨c1,c2⟩:=e4.append ai
   intro r hm
   have ab:=JY hm _ _ _ _ aj c1
   have ae:=J0 hm _ c2
   simp only at ab
   refine⟨_,?_,EB hm _ _ _ hm⟩
   have hG:gT P need rd.isSome call ops r st.h.n (fK ops.toList 0 [] []) [] st.d st.q ⟨st.h.t,st.h.n+ops.size⟩ []=.ok env d q h bg:=ab
   simp only[ea,tc,hG,ae,qI]
 · exact Sk ad ai
variable {rd:Option Nat}
theorem p9:∀(c:Code) (st:af) (hs:List Hint) (y:hU (bA×af)),mf P need rd call c st hs=.c8 y->e4 y.cs->cD P need rd call c st y.res.1 y.res.2
 |.skip,st,hs,y,ad,ai=>by cases ad;exactλr al=>⟨r,rfl,al⟩
 |.label _,st,hs,y,ad,ai=>by cases ad;exactλr al=>⟨r,rfl,al⟩
 |.exit id,st,hs,y,ad,ai=>by cases ad;exactλr al=>⟨r,rfl,al⟩
 |.ret,st,hs,y,ad,ai=>by cases ad;exactλr al=>⟨r,rfl,al⟩
 |.scope b,st,hs,y,ad,ai=>p9 b st hs y ad ai
 |.region id ops draw,st,hs,y,ad,ai=>by
  simp only[mf] at ad
  cases draw with
  |true=>exact Sl ad ai
  |false=>
   simp only at ad
   split at ad
   · rename_i x kz hT cL
     split at ad
     · rename_i bq EG
       cases ad
       intro r al
       have ab:=JW al _ _ _ _ _ _ _ cL ai
       simp only at ab
       simp only[ea,ab]
       cases x with
       |ok env d q h=>cases EG;exact⟨_,rfl,EB al _ _ _ al⟩
       |bp v d q h=>cases EG;exact⟨_,rfl,EC _ _ _ al⟩
       |fail w=>cases EG
     · cases ad
   · cases ad
 |.seq a b,st,hs,y,ad,ai=>by
  simp only[mf] at ad
  split at ad
  · rename_i st1 kz hT bl
    split at ad
    · rename_i a9 yo kZ ag
      cases ad
      obtain⟨c1,c2⟩:=e4.append ai
      intro r al
      obtain⟨bq,ab,c9⟩:=p9 a st hs _ bl c1 r al
      obtain⟨a9,ae,jr⟩:=p9 b st1 hT _ ag c2 bq c9
      exact⟨a9,by simp only at ab ae;simp only[ea,ab,qJ,ae],jr⟩
    · cases ad
  · rename_i eb
    intro r al
    obtain⟨bq,ab,c9⟩:=p9 a st hs y ad ai r al
    refine⟨bq,?_,c9⟩
    simp only[ea,ab]
    refine tA (λed=>?_)
    obtain⟨⟨aF,st1⟩,kz,hT⟩:=y
    simp only at ed
    subst ed
    exact eb _ _ _ ad
 |.cond c a b,st,hs,y,ad,ai=>by
  simp only[mf] at ad
  split at ad
  · rename_i x au
    split at ad
    · split at ad
      · rename_i bq kz hT bl
        cases ad
        obtain⟨rfl,c1⟩:=ai
        intro r al
        obtain⟨bq,ab,c9⟩:=p9 a st _ _ bl c1 r al
        exact⟨bq,by simp only at ab;simp only[ea,tX al au,ab],c9⟩
      · cases ad
    · split at ad
      · rename_i bq kz hT bl
        cases ad
        obtain⟨rfl,c1⟩:=ai
        intro r al
        obtain⟨bq,ab,c9⟩:=p9 b st _ _ bl c1 r al
        exact⟨bq,by simp only at ab;simp only[ea,tX al au,ab],c9⟩
      · cases ad
    · cases ad
  · cases ad
 |.block id b,st,hs,y,ad,ai=>by
  simp only[mf] at ad
  split at ad
  · rename_i i st1 kz hT ag
    split at ad
    · rename_i hi
      cases ad
      obtain rfl:=Nat.eq_of_beq_eq_true hi
      intro r al
      obtain⟨bq,ab,c9⟩:=p9 b st hs _ ag ai r al
      exact⟨bq,by simp only at ab;simp only[ea,ab,if_true],c9⟩
    · rename_i hi
      cases ad
      intro r al
      obtain⟨bq,ab,c9⟩:=p9 b st hs _ ag ai r al
      have eb:¬i=id:=by intro ed;subst ed;simp at hi
      exact⟨bq,by simp only at ab;simp only[ea,ab,if_neg eb],c9⟩
  · rename_i eb
    intro r al
    obtain⟨bq,ab,c9⟩:=p9 b st hs y ad ai r al
    refine⟨bq,?_,c9⟩
    obtain⟨⟨aF,st1⟩,kz,hT⟩:=y
    simp only at ab
    simp only[ea,ab]
    cases aF<;>first|rfl|exact absurd ad (eb _ _ _ _)
 |.loop b,st,hs,y,ad,ai=>by
  simp only[mf] at ad
  split at ad
  · cases ad;exact ai.1
  · cases ad
 |.rangeFunc f ps as cr,st,hs,y,ad,ai=>by
  simp only[mf] at ad
  split at ad
  · cases ad;exact ai.1
  · cases ad
 |.goto _,st,hs,y,ad,ai=>by cases ad
 |.refuse _,st,hs,y,ad,ai=>by cases ad
end
end aC
namespace aC
theorem vW{z:Bool}(h:z=true):(Decidable.rec (motive:=λ_=>Bool) (λh=>(λx=>false) h) (λh=>(λx=>true) h) (instDecidableEqBool z false):Bool)=false:=by subst h;rfl
open Go
def sub:Code->List Nat->Code
 |c,[]=>c
 |.seq a _,0::l=>sub a l
 |.seq _ b,_::l=>sub b l
 |.cond _ a _,0::l=>sub a l
 |.cond _ _ b,_::l=>sub b l
 |.block _ b,_::l=>sub b l
 |.loop b,_::l=>sub b l
 |.scope b,_::l=>sub b l
 |.rangeFunc _ _ a _,0::l=>sub a l
 |.rangeFunc _ _ _ b,_::l=>sub b l
 |c,_::_=>c
def fO(fn:Func):Code:=fn.body.getD .skip
def cN:Env->Env->Prop
 |[],_=>True
 |(t,v)::l,Γ=>fV t Γ=some v/\cN l Γ
theorem cN.ok:∀{Γ2 Γ:Env},cN Γ2 Γ->∀t v,fV t Γ2=some v->fV t Γ=some v
 |[],Γ,_,t,v,h=>by simp[fV] at h
 |(u,x)::l,Γ,⟨ab,ae⟩,t,v,h=>by
  simp only[fV] at h
  rcases tW t u with⟨e,ag⟩|⟨e,ag⟩
  · rw[ag] at h;cases h;rw[e];exact ab
  · rw[ag] at h;exact cN.ok ae t v h
theorem Mod.sub{r:a0}{Γ Γ2:Env}(h:Mod r Γ)(hs:cN Γ2 Γ):Mod r Γ2:=λt v bh=>h t v (hs.ok t v bh)
section
variable {P:Program} {need:Nat} {rd:Option Nat} {call:aE->List J->aa->ao}
def EH(b0:List Nat):lR (hU (bA×af))->Option (hU (bA×af))
 |.c8 ⟨(e,⟨Γ,d,q,h⟩),cs,[]⟩=>some ⟨(e,⟨np Γ b0,d,q,h⟩),cs,[]⟩
 |_=>none
theorem Sm{c:Code}{st:af}{hs:List Hint}{e:bA}{b_:af}{cs:List Prop}(b0:List Nat)(ad:EH b0 (mf P need rd call c st hs)=some ⟨(e,b_),cs,[]⟩)(ai:e4 cs):cD P need rd call c st e b_:=by
 unfold EH at ad
 split at ad
 · rename_i aF hy d1 aY ab kz Sn
   cases ad
   intro r al
   obtain⟨bq,ab,c9⟩:=p9 c st hs _ Sn ai r al
   exact⟨bq,ab,c9.np b0⟩
 · cases ad
theorem cD.pre{c:Code}{st st1 b_:af}{e:bA}(h:cD P need rd call c st e b_)(hs:cN st.Γ st1.Γ)(aj:st1.d=st.d)(aS:st1.q=st.q)(ah:st1.h=st.h):cD P need rd call c st1 e b_:=by
 intro r al
 obtain⟨bq,ab,c9⟩:=h r (al.sub hs)
 exact⟨bq,by rw[aj,aS,ah];exact ab,c9⟩
theorem cD.post{c:Code}{st b_:af}{Γ2:Env}{e:bA}(h:cD P need rd call c st e b_)(hs:cN Γ2 b_.Γ):cD P need rd call c st e {b_ with Γ:=Γ2}:=by
 intro r al
 obtain⟨bq,ab,c9⟩:=h r al
 exact⟨bq,ab,c9.sub hs⟩
def o4(P:Program)(need:Nat)(rd:Option Nat)(call:aE->List J->aa->ao)(b:Code)(n:Nat)(st:af)(e:bA)(b_:af):Prop:=
 ∀r,Mod r st.Γ->∃r',pF (ea P need rd call b) n r st.d st.q st.h=.ok e r' b_.d b_.q b_.h/\Mod r' b_.Γ
theorem o4.step{b:Code}{n:Nat}{st st1 b_:af}{e:bA}(h:cD P need rd call b st .nrm st1)(ae:o4 P need rd call b n st1 e b_):o4 P need rd call b (n+1) st e b_:=by
 intro r al
 obtain⟨bq,aF,c9⟩:=h r al
 obtain⟨a9,aG,jr⟩:=ae bq c9
 exact⟨a9,by simp only[pF,aF,qJ,aG],jr⟩
theorem o4.exit{b:Code}{n:Nat}{st b_:af}{e:bA}(h:cD P need rd call b st e b_)(he:e≠ .nrm):o4 P need rd call b (n+1) st e b_:=by
 intro r al
 obtain⟨bq,aF,c9⟩:=h r al
 exact⟨bq,by simp only[pF,aF];exact tA he,c9⟩
theorem EI{f:a0->List bU->bH->aa->ka}:∀{n m:Nat},n<=m->∀{r d q h e r' bO bE an},pF f n r d q h=.ok e r' bO bE an->pF f m r d q h=.ok e r' bO bE an
 |0,_,_,_,_,_,_,_,_,_,_,_,h=>by cases h
 |n+1,0,hle,_,_,_,_,_,_,_,_,_,_=>by omega
 |n+1,m+1,hle,r,d,q,h,e,r',bO,bE,an,ad=>by
  simp only[pF] at ad⊢
  cases hf:f r d q h with
  |fail w=>rw[hf] at ad;cases ad
  |ok aF bq d1 aY ab=>
   rw[hf] at ad
   cases aF<;>simp only[qJ] at ad⊢ <;>first|exact EI (by omega) ad|exact ad
theorem o4.run{b:Code}{n:Nat}{st b_:af}{e:bA}(h:o4 P need rd call b n st e b_)(aM:n<=100000):cD P need rd call (.loop b) st e b_:=by
 intro r al
 obtain⟨bq,aF,c9⟩:=h r al
 exact⟨bq,by simp only[ea];exact EI aM aF,c9⟩
def nr:Nat->List J->Env
 |_,[]=>[]
 |i,v::l=>(i,v)::nr (i+1) l
theorem J3(t:Nat)(v:J):∀(l:List J) (i:Nat),fV t (nr i l)=some v->i<=t/\t<i+l.length/\l[t-i]? =some v
 |[],i,h=>by simp[nr,fV] at h
 |x::l,i,h=>by
  simp only[nr,fV] at h
  rcases tW t i with⟨e,ag⟩|⟨e,ag⟩
  · rw[ag] at h;cases h;subst e;simp
  · rw[ag] at h
    obtain⟨ab,ae,aB⟩:=J3 t v l (i+1) h
    refine⟨by omega,by simp;omega,?_⟩
    have:t-i=(t-(i+1))+1:=by omega
    rw[this];simpa using aB
theorem t_(args:List J):Mod (nT 0 args .leaf) (nr 0 args):=by
 intro t v h
 obtain⟨ab,ae,aB⟩:=J3 t v args 0 h
 rw[DT,if_pos ⟨ab,ae⟩,aB];rfl
def n8(P:Program)(need:Nat)(Γ:Env)(h:aa)(x:ResultVar):Option J:=
 match x with
 |.tmp t=>match Nat.testBit need t with
  |true=>fV t Γ
  |false=>none
 |.cell t ty=>match Nat.testBit need t with
  |true=>match fV t Γ with
   |none=>none
   |some p=>match p,m7 P ty,dQ P ty with
    |.ptr b off,some true,some n=>(match loadCells h b off n with|some cs=>some (.agg cs)|none=>none)
    |.ptr b off,some false,_=>av h b off
    |_,_,_=>none
  |false=>none
theorem So{Γ:Env}{r:a0}(hm:Mod r Γ){h:aa}{x:ResultVar}{v:J}(ad:n8 P need Γ h x=some v):rM P need r h x=some v:=by
 cases x with
 |tmp t=>
  simp only[n8,rM] at ad⊢
  split at ad
  · rename_i ag
    rw[ag];simp only[hm t v ad]
  · cases ad
 |cell t ty=>
  simp only[n8,rM] at ad⊢
  split at ad
  · rename_i ag
    rw[ag]
    simp only
    cases aD:fV t Γ with
    |none=>rw[aD] at ad;simp at ad
    |some p=>rw[aD] at ad;rw[hm t p aD];exact ad
  · cases ad
def kE(P:Program)(need:Nat)(fn:Func)(Γ:Env)(h:aa):Option J:=
 match mC (n8 P need Γ h) fn.results.toList with
 |some [v]=>some v
 |some vs=>some (.aL vs)
 |none=>none
theorem J4{Γ:Env}{r:a0}(hm:Mod r Γ){h:aa}:∀(l:List ResultVar) (vs:List J),mC (n8 P need Γ h) l=some vs->mC (rM P need r h) l=some vs
 |[],vs,ad=>ad
 |x::l,vs,ad=>by
  simp only[mC] at ad⊢
  cases ab:n8 P need Γ h x with
  |none=>rw[ab] at ad;simp at ad
  |some v=>
   rw[ab] at ad
   cases ae:mC (n8 P need Γ h) l with
   |none=>rw[ae] at ad;simp at ad
   |some ws=>
    rw[ae] at ad
    rw[So hm ab,J4 hm l ws ae];exact ad
theorem ua{Γ:Env}{r:a0}(hm:Mod r Γ){h:aa}{fn:Func}{v:J}(ad:kE P need fn Γ h=some v):pG P need fn r h=some v:=by
 unfold kE at ad
 unfold pG
 cases bl:mC (n8 P need Γ h) fn.results.toList with
 |none=>rw[bl] at ad;cases ad
 |some vs=>
  rw[bl] at ad
  rw[J4 hm _ _ bl];exact ad
variable {intr:Nat->List J->aa->Option (J×aa)}
theorem Sp{f:Nat}{fn:Func}{c:Code}{n:Nat}{args:List J}{h:aa}(hf:P.funcs[f]? =some fn)(ag:fn.body=some c)(aM:dt fn=need)(hi:intr f args h=none)(hle:Nat.ble args.length fn.ntmps=true)
  {e:bA}{Γ:Env}{q:bH}{an:aa}(fr:cD P need none (gk P intr n) c ⟨nr 0 args,[],.none,h⟩ e ⟨Γ,[],q,an⟩)(he:e=.ret\/e=.nrm){v:J}(hv:kE P need fn Γ an=some v):
  gk P intr (n+1) (.fn f) args h=.ret v an:=by
 subst aM
 obtain⟨bq,ab,c9⟩:=fr _ (t_ args)
 have al:=ua c9 hv
 simp only[gk,hi,qL,hf,ag,lh,hle,ab]
 rcases he with rfl|rfl<;>simp only[kT,kb,al]
theorem Sq{f:Nat}{fn:Func}{c:Code}{n:Nat}{args:List J}{h:aa}(hf:P.funcs[f]? =some fn)(ag:fn.body=some c)(aM:dt fn=need)(hi:intr f args h=none)(hle:Nat.ble args.length fn.ntmps=true)
  {v:J}{Γ:Env}{q:bH}{an:aa}(fr:cD P need none (gk P intr n) c ⟨nr 0 args,[],.none,h⟩ (.bp v) ⟨Γ,[],q,an⟩):
  gk P intr (n+1) (.fn f) args h=.bp v an:=by
 subst aM
 obtain⟨bq,ab,c9⟩:=fr _ (t_ args)
 simp only[gk,hi,qL,hf,ag,lh,hle,ab,kT,kb]
abbrev aw(P:Program)(fn:Func)(rd:Option Nat)(call:aE->List J->aa->ao)(path:List Nat)(st:af)(e:bA)(b_:af):Prop:=cD P (dt fn) rd call (sub (fO fn) path) st e b_
abbrev Sr(P:Program)(fn:Func)(rd:Option Nat)(call:aE->List J->aa->ao)(path:List Nat)(st:af)(hs:List Hint):lR (hU (bA×af)):=mf P (dt fn) rd call (sub (fO fn) path) st hs
theorem aX{fn:Func}{path:List Nat}{st:af}{hs:List Hint}{e:bA}{b_:af}{cs:List Prop}(b0:List Nat)(ad:EH b0 (Sr P fn rd call path st hs)=some ⟨(e,b_),cs,[]⟩)(ai:e4 cs):aw P fn rd call path st e b_:=Sm b0 ad ai
end
end aC
namespace aC
open Go
theorem J5:∀(c:Code) (x:Nat) (l:List Nat),sub c (x::l)=sub (sub c [x]) l
 |.seq a b,0,l=>by simp[sub]
 |.seq a b,_+1,l=>by simp[sub]
 |.cond _ a b,0,l=>by simp[sub]
 |.cond _ a b,_+1,l=>by simp[sub]
 |.rangeFunc _ _ a b,0,l=>by simp[sub]
 |.rangeFunc _ _ a b,_+1,l=>by simp[sub]
 |.block _ b,x,l=>by simp[sub]
 |.loop b,x,l=>by simp[sub]
 |.scope b,x,l=>by simp[sub]
 |.skip,x,l=>by cases l<;>simp[sub]
 |.region _ _ _,x,l=>by cases l<;>simp[sub]
 |.exit _,x,l=>by cases l<;>simp[sub]
 |.ret,x,l=>by cases l<;>simp[sub]
 |.label _,x,l=>by cases l<;>simp[sub]
 |.goto _,x,l=>by cases l<;>simp[sub]
 |.refuse _,x,l=>by cases l<;>simp[sub]
theorem lr(c:Code):∀(p l:List Nat),sub c (p++l)=sub (sub c p) l
 |[],l=>by simp[sub]
 |x::p,l=>by rw[List.cons_append,J5,lr (sub c [x]) p l,<-J5]
def vX:Code->Bool
 |.seq _ _=>true
 |_=>false
def yq(id:Nat):Code->Bool
 |.block i _=>Nat.beq i id
 |_=>false
def Bq:Code->Bool
 |.loop _=>true
 |_=>false
theorem EJ{c:Code}(h:vX c=true):c=.seq (sub c [0]) (sub c [1]):=by
 cases c<;>simp[vX,sub] at h⊢
theorem EK{c:Code}{id:Nat}(h:yq id c=true):c=.block id (sub c [0]):=by
 cases c<;>simp only[yq] at h<;>(try (cases h;done))
 obtain rfl:=Nat.eq_of_beq_eq_true h
 simp[sub]
theorem Ss{c:Code}(h:Bq c=true):c=.loop (sub c [0]):=by
 cases c<;>simp[Bq,sub] at h⊢
section
variable {P:Program} {rd:Option Nat} {call:aE->List J->aa->ao} {fn:Func}
theorem cD.seq{need:Nat}{a b:Code}{st st1 dB:af}{e:bA}(ab:cD P need rd call a st .nrm st1)(ae:cD P need rd call b st1 e dB):cD P need rd call (.seq a b) st e dB:=by
 intro r al
 obtain⟨bq,aF,c9⟩:=ab r al
 obtain⟨a9,aG,jr⟩:=ae bq c9
 exact⟨a9,by simp only[ea,aF,qJ,aG],jr⟩
theorem cD.fW{need:Nat}{a b:Code}{st st1:af}{e:bA}(ab:cD P need rd call a st e st1)(he:e≠ .nrm):cD P need rd call (.seq a b) st e st1:=by
 intro r al
 obtain⟨bq,aF,c9⟩:=ab r al
 exact⟨bq,by simp only[ea,aF];exact tA he,c9⟩
theorem cD.block{need:Nat}{id:Nat}{b:Code}{st st1:af}(ab:cD P need rd call b st (.exit id) st1):cD P need rd call (.block id b) st .nrm st1:=by
 intro r al
 obtain⟨bq,aF,c9⟩:=ab r al
 exact⟨bq,by simp only[ea,aF,if_true],c9⟩
theorem cD.o5{need:Nat}{id:Nat}{b:Code}{st st1:af}{e:bA}(ab:cD P need rd call b st e st1)(he:e≠ .exit id):cD P need rd call (.block id b) st e st1:=by
 intro r al
 obtain⟨bq,aF,c9⟩:=ab r al
 refine⟨bq,?_,c9⟩
 simp only[ea,aF]
 cases e<;>first|rfl|(rename_i i;exact if_neg λh=>he (by rw[h]))
theorem aw.seq{p:List Nat}{st st1 dB:af}{e:bA}(hs:vX (sub (fO fn) p)=true)(ab:aw P fn rd call (p++[0]) st .nrm st1)(ae:aw P fn rd call (p++[1]) st1 e dB):aw P fn rd call p st e dB:=by
 unfold aw at*
 rw[EJ hs]
 rw[lr] at ab ae
 exact ab.seq ae
theorem aw.fW{p:List Nat}{st st1:af}{e:bA}(hs:vX (sub (fO fn) p)=true)(ab:aw P fn rd call (p++[0]) st e st1)(he:e≠ .nrm):aw P fn rd call p st e st1:=by
 unfold aw at*
 rw[EJ hs]
 rw[lr] at ab
 exact ab.fW he
theorem aw.block{p:List Nat}{id:Nat}{st st1:af}(hs:yq id (sub (fO fn) p)=true)(ab:aw P fn rd call (p++[0]) st (.exit id) st1):aw P fn rd call p st .nrm st1:=by
 unfold aw at*
 rw[EK hs]
 rw[lr] at ab
 exact ab.block
theorem aw.o5{p:List Nat}{id:Nat}{st st1:af}{e:bA}(hs:yq id (sub (fO fn) p)=true)(ab:aw P fn rd call (p++[0]) st e st1)(he:e≠ .exit id):aw P fn rd call p st e st1:=by
 unfold aw at*
 rw[EK hs]
 rw[lr] at ab
 exact ab.o5 he
def ev(P:Program)(fn:Func)(rd:Option Nat)(call:aE->List J->aa->ao)(p:List Nat)(n:Nat)(st:af)(e:bA)(b_:af):Prop:=o4 P (dt fn) rd call (sub (fO fn) (p++[0])) n st e b_
theorem ev.step{p:List Nat}{n:Nat}{st st1 b_:af}{e:bA}(h:aw P fn rd call (p++[0]) st .nrm st1)(ae:ev P fn rd call p n st1 e b_):ev P fn rd call p (n+1) st e b_:=o4.step h ae
theorem ev.exit{p:List Nat}{n:Nat}{st b_:af}{e:bA}(h:aw P fn rd call (p++[0]) st e b_)(he:e≠ .nrm):ev P fn rd call p (n+1) st e b_:=o4.exit h he
theorem ev.run{p:List Nat}{n:Nat}{st b_:af}{e:bA}(hs:Bq (sub (fO fn) p)=true)(h:ev P fn rd call p n st e b_)(aM:n<=100000):aw P fn rd call p st e b_:=by
 unfold aw
 rw[Ss hs]
 unfold ev at h
 rw[lr] at h
 exact o4.run h aM
theorem dn{intr:Nat->List J->aa->Option (J×aa)}{f:Nat}{n:Nat}{args:List J}{h:aa}(hf:P.funcs[f]? =some fn)(ag:fn.body.isSome=true)(hi:intr f args h=none)(hle:Nat.ble args.length fn.ntmps=true)
  {e:bA}{Γ:Env}{q:bH}{an:aa}(fr:aw P fn none (gk P intr n) [] ⟨nr 0 args,[],.none,h⟩ e ⟨Γ,[],q,an⟩)(he:e=.ret\/e=.nrm){v:J}(hv:kE P (dt fn) fn Γ an=some v):
  gk P intr (n+1) (.fn f) args h=.ret v an:=by
 obtain⟨c,ai⟩:=Option.isSome_iff_exists.1 ag
 have q3:fO fn=c:=by simp[fO,ai]
 unfold aw at fr
 rw[q3] at fr
 simp only[sub] at fr
 exact Sp hf ai rfl hi hle fr he hv
theorem St{intr:Nat->List J->aa->Option (J×aa)}{f:Nat}{n:Nat}{args:List J}{h:aa}(hf:P.funcs[f]? =some fn)(ag:fn.body.isSome=true)(hi:intr f args h=none)(hle:Nat.ble args.length fn.ntmps=true)
  {v:J}{Γ:Env}{q:bH}{an:aa}(fr:aw P fn none (gk P intr n) [] ⟨nr 0 args,[],.none,h⟩ (.bp v) ⟨Γ,[],q,an⟩):gk P intr (n+1) (.fn f) args h=.bp v an:=by
 obtain⟨c,ai⟩:=Option.isSome_iff_exists.1 ag
 have q3:fO fn=c:=by simp[fO,ai]
 unfold aw at fr
 rw[q3] at fr
 simp only[sub] at fr
 exact Sq hf ai rfl hi hle fr
theorem ki{i m:Nat}(hi:i<m)(hm:m<=1000000000000):arith BinOp.add IntKind.i64 (Int.ofNat i) (Int.ofNat 1)=some (J.int IntKind.i64 (Int.ofNat (i+1))):=by
 have h:=rY (i+1) (by omega)
 have e:Int.ofNat i+Int.ofNat 1=((i+1:Nat):Int):=rfl
 simp only[arith,e,h];rfl
theorem du{a b:Nat}(h:a<b):br (Int.ofNat a) (Int.ofNat b)=true:=by simp[br];omega
theorem dY{a b:Nat}(h:¬a<b):br (Int.ofNat a) (Int.ofNat b)=false:=by simp[br];omega
theorem nt{s:List UInt8}{i:Nat}(h:i<s.length):g1 i s=some (.int .u8 (Int.ofNat (s[i]).toNat)):=by
 unfold g1
 rw[qO,List.getElem?_eq_getElem h]
end
end aC
namespace aC
open Go
structure Ext(B:Nat)(h an:aa):Prop where
 n:h.n<=an.n
 get:∀b,b<B->an.get b=h.get b
theorem Ext.refl(B:Nat)(h:aa):Ext B h h:=⟨Nat.le_refl _,λ_ _=>rfl⟩
theorem Ext.trans{B jv:Nat}{h ab ae:aa}(b4:B<=jv)(e:Ext B h ab)(ed:Ext jv ab ae):Ext B h ae:=⟨Nat.le_trans e.n ed.n,λb ag=>(ed.get b (Nat.lt_of_lt_of_le ag b4)).trans (e.get b ag)⟩
theorem Ext.push{B:Nat}{h:aa}(b4:B<=h.n)(o:cJ):Ext B h (h.push o):=⟨by simp,λb ag=>by rw[aa.e6,if_neg (by omega)]⟩
theorem Ext.set{B:Nat}{h:aa}{b:Nat}(ag:B<=b)(o:Option cJ):Ext B h (h.set b o):=⟨by simp,λc ai=>by rw[aa.bV,if_neg (by omega)]⟩
theorem Ext.room(B:Nat)(h:aa)(k:Nat):Ext B h (h.room k):=⟨by simp,λ_ _=>rfl⟩
theorem Br:∀(l m:List J),takeN l.length (l++m)=some l
 |[],m=>rfl
 |a::l,m=>by simp[takeN,Br l m]
theorem Bs{h:aa}{b e lo hi:Nat}{k:eE}{xs rest:List J}(au:h.get b=some (.cells (xs++rest) e k lo hi)):loadCells h b 0 xs.length=some xs:=by
 simp[loadCells,au,jB,Br]
theorem J6:∀(l m:List J) (x y:J) (r:List J),x.cu=true->eP l.length [x] (l++y::r)=some (l++x::r)
 |[],m,x,y,r,ad=>by
  simp only[List.length_nil,List.nil_append]
  cases r with
  |nil=>simp[eP,ad]
  |cons z r=>simp[eP,ad]
 |a::l,m,x,y,r,ad=>by
  have bt:=J6 l m x y r ad
  simp only[List.length_cons,List.cons_append,eP,bt]
section
variable {P:Program}
theorem yr{h:aa}{e bytes size need:Nat}{z:J}{cs:List J}{fz:Nat}(ab:my need bytes=true)(ae:Nat.beq z.cells.length size=true)(aB:cs.all J.cu=true):lK h e bytes size need z cs fz=some (.slice h.n 0 need (.a5 size),h.push (.cells cs e .a5 0 fz)):=by
 unfold lK
 rw[ab,ae,aB];rfl
theorem Su{h:aa}{t:TypeId}{s:List UInt8}{lo hi:Nat}{k k':IntKind}(hu:P.underlying t=some .string)(ab:lo<=hi)(ae:hi<=s.length):
  d_ P h t (.str s) (some (.int k (Int.ofNat lo))) (some (.int k' (Int.ofNat hi))) none=some (.str ((s.drop lo).take (hi-lo))):=by
 have a8:Nat.ble s.length s.length=true:=by simp
 have aW:Nat.ble hi s.length=true:=by simpa using ae
 have ds:Nat.ble lo hi=true:=by simpa using ab
 simp only[d_,hu,bounds,jM,gb,a8,aW,ds,m9]
theorem yu{h:aa}{t:TypeId}{s:List UInt8}{hi:Nat}{k':IntKind}(hu:P.underlying t=some .string)(ae:hi<=s.length):
  d_ P h t (.str s) none (some (.int k' (Int.ofNat hi))) none=some (.str (s.take hi)):=by
 have a8:Nat.ble s.length s.length=true:=by simp
 have aW:Nat.ble hi s.length=true:=by simpa using ae
 have ds:Nat.ble 0 hi=true:=by simp
 simp only[d_,hu,bounds,jM,gb,a8,aW,ds,m9,List.drop_zero,Nat.sub_zero]
theorem EL{h:aa}{t:TypeId}{s:List UInt8}{lo:Nat}{k:IntKind}(hu:P.underlying t=some .string)(ae:lo<=s.length):
  d_ P h t (.str s) (some (.int k (Int.ofNat lo))) none none=some (.str (s.drop lo)):=by
 have a8:Nat.ble s.length s.length=true:=by simp
 have aW:Nat.ble lo s.length=true:=by simpa using ae
 simp only[d_,hu,bounds,jM,gb,a8,aW,m9]
 rw[List.take_of_length_le (by simp)]
theorem gx{x y:List UInt8}(h:x.length+y.length<=1000000000000):fA .add x y=some (.str (x++y)):=by
 have:¬(((x.length+y.length:Nat):Int)>IntKind.i64.max):=by
  have e:IntKind.i64.max=9223372036854775807:=rfl
  rw[e];omega
 simp only[fA,if_neg this]
end
end aC
namespace aC
open Go
variable {P:Program} {call:aE->List J->aa->ao}
def J7(l:Nat)(e:bA)(need:Nat)(r:a0)(ps:List Nat)(as cr:Code)(eU:Nat)(h:aa):ao:=match e with
 |.nrm=>.ret (.bool true) (h.set l (some (.loop .ready none need r ps as cr eU)))
 |.ret=>.ret (.bool false) (h.set l (some (.loop .done (some .ret) need r ps as cr eU)))
 |.exit id=>.ret (.bool false) (h.set l (some (.loop .done (some (.exit id)) need r ps as cr eU)))
 |.bp v=>.bp v h
 |.goto _=>.fail "goto in a round"
theorem J8{l need t eU:Nat}{Γ hy Γ2:Env}{as cr:Code}{v:J}{h ae:aa}{q aR:bH}{e:bA}{r:a0}
  (au:h.get l=some (.loop .ready none need r [t] as cr eU))(hm:Mod r Γ)
  (bl:cD P need (some l) call as ⟨put t v Γ,[],.none,h⟩ .nrm ⟨hy,[],q,h⟩)
  (ag:cD P need (some l) call cr ⟨hy,[],.none,h.set l (some (.loop .busy none need r [t] as cr eU))⟩ e ⟨Γ2,[],aR,ae⟩)
  (ax:ae.get l=some (.loop .busy none need r [t] as cr eU)):
  oI P call l [v] h=J7 l e need r [t] as cr eU ae:=by
 obtain⟨bq,aF,c9⟩:=bl _ (hm.put t v)
 obtain⟨a9,aG,jr⟩:=ag _ c9
 simp only at aF aG
 simp only[oI,au,td,aF,Ah,aG]
 simp only[vm,ax]
 cases e<;>rfl
theorem mQ{h:aa}{b t:Nat}{x:J}(au:h.get b=some (.cells [x] t .own 0 0)):av h b 0=some x:=by
 simp only[av,au];rfl
theorem Bt{h:aa}{b t:Nat}{x y:J}(bu:y.cu=true)(au:h.get b=some (.cells [x] t .own 0 0)):aC.storeCells h b 0 [y]=some (h.set b (some (.cells [y] t .own 0 0))):=by
 have hw:j9 .own 0 0 0 [y].length=true:=rfl
 simp only[aC.storeCells,au,hw,eP,bu]
end aC
namespace aC
open Go
def W(P:Program)(need:Nat)(rd:Option Nat)(call:aE->List J->aa->ao)(c:Code)(Q:bA->a0->List bU->bH->aa->Prop)(r:a0)(d:List bU)(q:bH)(h:aa):Prop:=
 ∃e r' bO bE an,ea P need rd call c r d q h=.ok e r' bO bE an/\Q e r' bO bE an
section
variable {P:Program} {need:Nat} {rd:Option Nat} {call:aE->List J->aa->ao} {fn:Func}
theorem W.of{c:Code}{Q:bA->a0->List bU->bH->aa->Prop}{r:a0}{st b_:af}{e:bA}(al:cD P need rd call c st e b_)(hm:Mod r st.Γ)(k:∀r',Mod r' b_.Γ->Q e r' b_.d b_.q b_.h):W P need rd call c Q r st.d st.q st.h:=by
 obtain⟨r',ab,ae⟩:=al r hm
 exact⟨e,r',_,_,_,ab,k r' ae⟩
theorem W.seq{a b:Code}{Q:bA->a0->List bU->bH->aa->Prop}{r:a0}{d:List bU}{q:bH}{h:aa}
  (hw:W P need rd call a (λe r d q h=>(e=.nrm/\W P need rd call b Q r d q h)\/(e≠ .nrm/\Q e r d q h)) r d q h):W P need rd call (.seq a b) Q r d q h:=by
 obtain⟨e,bq,d1,aY,ab,ae,aB⟩:=hw
 rcases aB with⟨rfl,aG,a9,d2,aR,aP,cg,dN⟩|⟨eb,aS⟩
 · exact⟨aG,a9,d2,aR,aP,by simp only[ea,ae,qJ,cg],dN⟩
 · exact⟨e,bq,d1,aY,ab,by simp only[ea,ae];exact tA eb,aS⟩
theorem W.block{id:Nat}{b:Code}{Q:bA->a0->List bU->bH->aa->Prop}{r:a0}{d:List bU}{q:bH}{h:aa}
  (hw:W P need rd call b (λe r d q h=>(e=.exit id/\Q .nrm r d q h)\/(e≠ .exit id/\Q e r d q h)) r d q h):W P need rd call (.block id b) Q r d q h:=by
 obtain⟨e,bq,d1,aY,ab,ae,aB⟩:=hw
 rcases aB with⟨rfl,aS⟩|⟨eb,aS⟩
 · exact⟨.nrm,bq,d1,aY,ab,by simp only[ea,ae,if_true],aS⟩
 · refine⟨e,bq,d1,aY,ab,?_,aS⟩
   simp only[ea,ae]
   cases e<;>first|rfl|(rename_i i;exact if_neg λh=>eb (by rw[h]))
abbrev WF(P:Program)(fn:Func)(rd:Option Nat)(call:aE->List J->aa->ao)(path:List Nat):=W P (dt fn) rd call (sub (fO fn) path)
theorem WF.seq{p:List Nat}{Q:bA->a0->List bU->bH->aa->Prop}{r:a0}{d:List bU}{q:bH}{h:aa}(hs:vX (sub (fO fn) p)=true)
  (hw:WF P fn rd call (p++[0]) (λe r d q h=>(e=.nrm/\WF P fn rd call (p++[1]) Q r d q h)\/(e≠ .nrm/\Q e r d q h)) r d q h):WF P fn rd call p Q r d q h:=by
 unfold WF at*
 rw[EJ hs]
 rw[lr,lr] at hw
 exact hw.seq
theorem WF.block{p:List Nat}{id:Nat}{Q:bA->a0->List bU->bH->aa->Prop}{r:a0}{d:List bU}{q:bH}{h:aa}(hs:yq id (sub (fO fn) p)=true)
  (hw:WF P fn rd call (p++[0]) (λe r d q h=>(e=.exit id/\Q .nrm r d q h)\/(e≠ .exit id/\Q e r d q h)) r d q h):WF P fn rd call p Q r d q h:=by
 unfold WF at*
 rw[EK hs]
 rw[lr] at hw
 exact hw.block
def EM(f:Operand)(ps:List Nat):Code->Bool
 |.rangeFunc (.tmp g) ub _ _=>(match f with|.tmp t=>Nat.beq g t|_=>false)&&ub.toList==ps
 |_=>false
theorem Sv{c:Code}{t:Nat}{ps:List Nat}(h:EM (.tmp t) ps c=true):∃ub:Array Nat,ub.toList=ps/\c=.rangeFunc (.tmp t) ub (sub c [0]) (sub c [1]):=by
 unfold EM at h
 split at h
 · rename_i g ub a b
   simp only[Bool.and_eq_true] at h
   obtain⟨ab,ae⟩:=h
   obtain rfl:=Nat.eq_of_beq_eq_true ab
   exact⟨ub,eq_of_beq ae,by simp[sub]⟩
 · cases h
theorem W.range{f:Operand}{ps:Array Nat}{as cr:Code}{Γ:Env}{Q:bA->a0->List bU->bH->aa->Prop}{r:a0}{d:List bU}{q:bH}{h:aa}{g:Nat}{caps:List J}
  (hf:n6 0 [] Γ (c_ P need [] f)=some (.fn g [] caps))(hm:Mod r Γ)
  (ai:∃e an,jO (h.n+1) r (.collected h.n::d) q (call (.fn g) (.ca (h.n+1)::caps) ((h.push (.defrd (some []))).push (.loop .ready none need r ps.toList as cr h.n)))=.ok e r (.collected h.n::d) q an/\Q e r (.collected h.n::d) q an):
  W P need none call (.rangeFunc f ps as cr) Q r d q h:=by
 obtain⟨e,an,c1,c2⟩:=ai
 refine⟨e,r,_,q,an,?_,c2⟩
 have au:=tX hm hf
 rw[<-c1]
 simp only[ea,xv,au,tb,oG]
 rfl
theorem WF.range{p:List Nat}{t:Nat}{ps:List Nat}{Γ:Env}{Q:bA->a0->List bU->bH->aa->Prop}{r:a0}{d:List bU}{q:bH}{h:aa}{g:Nat}{caps:List J}(hs:EM (.tmp t) ps (sub (fO fn) p)=true)
  (aM:Nat.testBit (dt fn) t=true)(hf:fV t Γ=some (.fn g [] caps))(hm:Mod r Γ)
  (ai:∃e an,jO (h.n+1) r (.collected h.n::d) q (call (.fn g) (.ca (h.n+1)::caps) ((h.push (.defrd (some []))).push (.loop .ready none (dt fn) r ps (sub (fO fn) (p++[0])) (sub (fO fn) (p++[1])) h.n)))=.ok e r (.collected h.n::d) q an/\Q e r (.collected h.n::d) q an):
  WF P fn none call p Q r d q h:=by
 obtain⟨ub,aS,he⟩:=Sv hs
 unfold WF
 rw[lr,lr] at ai
 rw[he]
 subst aS
 refine W.range (Γ:=Γ) ?_ hm ai
 have:c_ P (dt fn) [] (.tmp t)=.reg (hP t):=by
  unfold c_
  simp only[jm,aM]
 rw[this]
 show fV (hP t).num Γ=_
 rw[Al];exact hf
theorem EN{intr:Nat->List J->aa->Option (J×aa)}{f:Nat}{n:Nat}{args:List J}{h:aa}{X:ao}(hf:P.funcs[f]? =some fn)(ag:fn.body.isSome=true)(hi:intr f args h=none)(hle:Nat.ble args.length fn.ntmps=true)
  (hw:WF P fn none (gk P intr n) [] (λe r d q an=>kT P (gk P intr n) fn (.ok e r d q an)=X) (nT 0 args .leaf) [] .none h):gk P intr (n+1) (.fn f) args h=X:=by
 obtain⟨c,ai⟩:=Option.isSome_iff_exists.1 ag
 have q3:fO fn=c:=by simp[fO,ai]
 obtain⟨e,r,d,q,an,ab,ae⟩:=hw
 rw[q3] at ab
 simp only[sub] at ab
 simp only[gk,hi,qL,hf,ai,lh,hle,ab,ae]
end
end aC
namespace aC
open Go
theorem o6:∀l:List UInt8,(cK l).length=l.length
 |[]=>rfl
 |a::l=>by simp[cK,o6 l]
theorem vY:∀l m:List UInt8,cK (l++m)=cK l++cK m
 |[],m=>rfl
 |a::l,m=>by simp[cK,vY l m]
theorem Bu:∀l:List UInt8,(cK l).all J.cu=true
 |[]=>rfl
 |a::l=>by rw[cK,List.all_cons,Bu l];rfl
theorem Bv:∀l:List UInt8,nR (cK l)=some l
 |[]=>rfl
 |a::l=>by
  have ab:Nat.blt a.toNat 256=true:=by have:=UInt8.toNat_lt a;simp[Nat.blt];omega
  simp only[cK,nR,Bv l,ab,UInt8.ofNat_toNat]
theorem yv:∀(xs ys:List J),xs.all J.cu=true->xs.length<=ys.length->eP 0 xs ys=some (xs++ys.drop xs.length)
 |[],ys,_,_=>by cases ys<;>simp[eP]
 |x::xs,[],_,h=>by simp at h
 |x::xs,y::ys,ad,h=>by
  simp only[List.all_cons,Bool.and_eq_true] at ad
  have bt:=yv xs ys ad.2 (by simpa using h)
  simp[eP,ad.1,bt]
theorem Bw:∀(l xs ys:List J),xs.all J.cu=true->xs.length<=ys.length->eP l.length xs (l++ys)=some (l++(xs++ys.drop xs.length))
 |[],xs,ys,ad,h=>by simpa using yv xs ys ad h
 |a::l,[],ys,ad,h=>by simp[eP]
 |a::l,x::xs,ys,ad,h=>by
  have bt:=Bw l (x::xs) ys ad h
  simp only[List.length_cons,List.cons_append,eP] at bt⊢
  rw[bt]
theorem kF{i j:Nat}(h:i+j<9223372036854775808):arith BinOp.add IntKind.i64 (Int.ofNat i) (Int.ofNat j)=some (J.int IntKind.i64 (Int.ofNat (i+j))):=by
 have h:=rY (i+j) h
 have e:Int.ofNat i+Int.ofNat j=((i+j:Nat):Int):=rfl
 simp only[arith,e,h];rfl
theorem nu{i j:Nat}(aV:j<=i)(h:i<9223372036854775808):arith BinOp.sub IntKind.i64 (Int.ofNat i) (Int.ofNat j)=some (J.int IntKind.i64 (Int.ofNat (i-j))):=by
 have h:=rY (i-j) (by omega)
 have e:Int.ofNat i-Int.ofNat j=((i-j:Nat):Int):=by
  have aF:Int.ofNat i=(i:Int):=rfl
  have aG:Int.ofNat j=(j:Int):=rfl
  rw[aF,aG];omega
 simp only[arith,e,h];rfl
theorem uc{i j:Nat}(h:i*j<9223372036854775808):arith BinOp.mul IntKind.i64 (Int.ofNat i) (Int.ofNat j)=some (J.int IntKind.i64 (Int.ofNat (i*j))):=by
 have h:=rY (i*j) h
 have e:Int.ofNat i*Int.ofNat j=((i*j:Nat):Int):=rfl
 simp only[arith,e,h];rfl
theorem iE{a b:Nat}(h:a<=b):dq (Int.ofNat a) (Int.ofNat b)=true:=by simp[dq];omega
theorem iF{a b:Nat}(h:¬a<=b):dq (Int.ofNat a) (Int.ofNat b)=false:=by simp[dq];omega
def ud(B e:Nat)(h:aa)(v:J)(w:List UInt8):Prop:=
 (v=.aA/\w=[])\/∃c rest,v=.slice c 0 w.length (.a5 1)/\h.get c=some (.cells (cK w++rest) e .a5 0 0)/\B<=c/\c<h.n
theorem ud.ext{B e:Nat}{h an:aa}{v:J}{w:List UInt8}(ag:ud B e h v w)(aM:h.n<=an.n)(au:∀c,B<=c->c<h.n->an.get c=h.get c):ud B e an v w:=by
 rcases ag with ab|⟨c,rest,ab,ae,aB,aP⟩
 · exact .inl ab
 · exact .inr ⟨c,rest,ab,(au c aB aP).trans ae,aB,by omega⟩
section
variable {P:Program}
theorem Sw{B:Nat}{h:aa}{v:J}{w s:List UInt8}{sT e:TypeId}{xT:Option TypeId}{i:TypeInfo}{z:J}(b4:B<=h.n)(hu:P.underlying sT=some (.slice e))(hE:pA P xT=true)(hi:P.info? e=some i)(bX:i.size=1)(bj:fq P e=some z)(jQ:z.cells.length=1)
  (tk:my (w.length+s.length) i.bytes=true)(al:ud B e h v w):
  ∃v' an,gf P h sT xT v (.str s)=some (v',an)/\ud B e an v' (w++s)/\Ext B h an:=by
 have ic:ha h 1 (.str s)=some (s.length,cK s):=rfl
 have J9:Nat.beq z.cells.length 1=true:=by rw[jQ];rfl
 rcases al with⟨rfl,rfl⟩|⟨c,rest,rfl,au,yw,p8⟩
 · cases s with
   |nil=>exact⟨.aA,h,by simp only[gf,hu,hE,hi,bj,bX];rfl,.inl ⟨rfl,rfl⟩,Ext.refl _ _⟩
   |cons a s=>
    have Sx:my (a::s).length i.bytes=true:=by simpa using tk
    have cl:=yr (h:=h) (e:=e) (fz:=0) Sx J9 (Bu (a::s))
    refine⟨.slice h.n 0 (a::s).length (.a5 1),h.push (.cells (cK (a::s)) e .a5 0 0),?_,.inr ⟨h.n,[],by simp,by rw[aa.e6,if_pos rfl];simp,b4,by simp⟩,Ext.push b4 _⟩
    rw[<-cl]
    simp only[gf,hu,hE,hi,bj,bX,ic]
    rfl
 · cases s with
   |nil=>exact⟨.slice c 0 w.length (.a5 1),h,by simp only[gf,hu,hE,hi,bj,bX];rfl,.inr ⟨c,rest,by simp,by simpa using au,yw,p8⟩,Ext.refl _ _⟩
   |cons a s=>
    have J_:(Nat.beq 1 1&&Nat.blt 0 1)=true:=rfl
    by_cases r5:(a::s).length<=rest.length
    · have q4:Nat.ble (0+(w.length+(a::s).length)*1) (cK w++rest).length=true:=by
        simp only[Nat.ble_eq,List.length_append,o6];omega
      have aU:=Bw (cK w) (cK (a::s)) rest (Bu _) (by rw[o6];exact r5)
      have hw:j9 .a5 0 0 (0+w.length*1) (cK (a::s)).length=true:=by unfold j9;simp
      have x6:eP (0+w.length*1) (cK (a::s)) (cK w++rest)=some (cK w++(cK (a::s)++rest.drop (cK (a::s)).length)):=by
       rw[<-aU,o6];simp
      refine⟨.slice c 0 (w.length+(a::s).length) (.a5 1),h.set c (some (.cells (cK w++(cK (a::s)++rest.drop (cK (a::s)).length)) e .a5 0 0)),?_,.inr ⟨c,rest.drop (cK (a::s)).length,by simp,by rw[aa.bV,if_pos rfl,vY];simp,yw,by simpa using p8⟩,Ext.set yw _⟩
      simp only[gf,hu,hE,hi,bj,bX,ic]
      simp only[J_,List.length_cons,au]
      simp only[List.length_cons] at q4 x6 hw
      simp only[q4,aC.storeCells,au,hw,x6]
    · have q4:Nat.ble (0+(w.length+(a::s).length)*1) (cK w++rest).length=false:=by
        cases ag:Nat.ble (0+(w.length+(a::s).length)*1) (cK w++rest).length with
        |false=>rfl
        |true=>simp only[Nat.ble_eq,List.length_append,o6] at ag;omega
      have aD:loadCells h c 0 (w.length*1)=some (cK w):=by
       have:=Bs (xs:=cK w) au
       rw[o6] at this;simpa using this
      have gm:(cK w++cK (a::s)).all J.cu=true:=by rw[<-vY];exact Bu _
      have Sy:(Nat.ble 0 (0+w.length*1)&&Nat.beq e e)=true:=by simp
      have cl:=yr (h:=h.set c none) (e:=e) (fz:=0-0) tk J9 gm
      refine⟨.slice (h.set c none).n 0 (w.length+(a::s).length) (.a5 1),(h.set c none).push (.cells (cK w++cK (a::s)) e .a5 0 0),?_,.inr ⟨(h.set c none).n,[],by simp,by rw[aa.e6,if_pos rfl,vY];simp,by simp;omega,by simp⟩,
       (Ext.set yw none).trans (Nat.le_refl _) (Ext.push (by simp;omega) _)⟩
      simp only[List.length_cons] at q4 cl
      simp only[gf,hu,hE,hi,bj,bX,ic]
      simp only[J_,List.length_cons,au]
      simp only[q4,aD,Sy,cl]
theorem Sz{h:aa}{pT u:TypeId}{c e:Nat}{w:List UInt8}{rest:List J}(hw:w≠[])(aD:w.length<=100000000000)(hu:P.underlying pT=some (.pointer u))(he:P.underlyingId e=P.underlyingId u)(hs:dQ P e=some 1)(au:h.get c=some (.cells (cK w++rest) e .a5 0 0)):
  qE P h pT (.ptr c 0) (.int .i64 (Int.ofNat w.length))=some (.str w,h.set c (some (.cells (cK w++rest) e .fz 0 0))):=by
 have aM:w.length≠0:=by cases w<;>simp at hw⊢
 have bh:takeN w.length (jB 0 (cK w++rest))=some (cK w):=by
  have:=Br (cK w) rest
  rw[o6] at this;exact this
 have hle:Nat.ble w.length 281474976710656=true:=by simp;omega
 simp only[qE,gb,if_neg aM,hu,au,he,hs,hle,bh,Bv]
 simp
end
end aC
namespace aC
open Go
section
variable {D:Type}
variable {enc:D->List J} {w:Nat}
theorem Ka:∀(l m:List J) (n:Nat),l.length=n->takeN n (l++m)=some l
 |l,m,n,h=>by subst h;exact Br l m
theorem EO:∀(l m:List J),jB l.length (l++m)=m
 |[],m=>by cases m<;>rfl
 |a::l,m=>by simp[jB,EO l m]
end
end aC
namespace aC
open Go
theorem sq(n:Nat)(h:n<18446744073709551616):IntKind.wrap .u64 (n:Int)=(n:Int):=by
 have e:((n:Int) %18446744073709551616)=n:=by omega
 have aG:(2:Int)^64=18446744073709551616:=by rfl
 simp only[IntKind.wrap,IntKind.bits,IntKind.signed,aG,e,Bool.false_and,if_neg Bool.false_ne_true]
theorem wrap_u8(n:Nat):IntKind.wrap .u8 (n:Int)=((n %256:Nat):Int):=by
 have aG:(2:Int)^8=256:=by rfl
 simp only[IntKind.wrap,IntKind.bits,IntKind.signed,aG,Bool.false_and,if_neg Bool.false_ne_true]
 omega
theorem ue{i j:Nat}(h:i+j<18446744073709551616):arith BinOp.add IntKind.u64 (Int.ofNat i) (Int.ofNat j)=some (J.int IntKind.u64 (Int.ofNat (i+j))):=by
 have h:=sq (i+j) h
 have e:Int.ofNat i+Int.ofNat j=((i+j:Nat):Int):=rfl
 simp only[arith,e,h];rfl
theorem Bx{i j:Nat}(aV:j<=i)(h:i<18446744073709551616):arith BinOp.sub IntKind.u64 (Int.ofNat i) (Int.ofNat j)=some (J.int IntKind.u64 (Int.ofNat (i-j))):=by
 have h:=sq (i-j) (by omega)
 have e:Int.ofNat i-Int.ofNat j=((i-j:Nat):Int):=by
  have aF:Int.ofNat i=(i:Int):=rfl
  have aG:Int.ofNat j=(j:Int):=rfl
  rw[aF,aG];omega
 simp only[arith,e,h];rfl
theorem Kb{i j:Nat}(aV:0<j)(h:i<18446744073709551616):arith BinOp.quo IntKind.u64 (Int.ofNat i) (Int.ofNat j)=some (J.int IntKind.u64 (Int.ofNat (i/j))):=by
 have h:=sq (i/j) (by have:=Nat.div_le_self i j;omega)
 have e:(Int.ofNat i).tdiv (Int.ofNat j)=((i/j:Nat):Int):=rfl
 have eb:¬(Int.ofNat j=0):=by
  have aF:Int.ofNat j=(j:Int):=rfl
  rw[aF];omega
 simp only[arith,if_neg eb,e,h];rfl
theorem Kc(k:IntKind){i j:Nat}(aV:0<j):arith BinOp.rem k (Int.ofNat i) (Int.ofNat j)=some (J.int k (Int.ofNat (i %j))):=by
 have e:(Int.ofNat i).tmod (Int.ofNat j)=((i %j:Nat):Int):=rfl
 have eb:¬(Int.ofNat j=0):=by
  have aF:Int.ofNat j=(j:Int):=rfl
  rw[aF];omega
 simp only[arith,if_neg eb,e];rfl
theorem SA{i j:Nat}:arith BinOp.add IntKind.u8 (Int.ofNat i) (Int.ofNat j)=some (J.int IntKind.u8 (Int.ofNat ((i+j) %256))):=by
 have h:=wrap_u8 (i+j)
 have e:Int.ofNat i+Int.ofNat j=((i+j:Nat):Int):=rfl
 simp only[arith,e,h];rfl
theorem yx(k:IntKind){i j:Nat}(aV:j<=k.bits):l8 BinOp.shr k (Int.ofNat i) (Int.ofNat j)=some (J.int k (Int.ofNat (i/2^j))):=by
 have aM:¬(Int.ofNat j<0):=by
  have aF:Int.ofNat j=(j:Int):=rfl
  rw[aF];omega
 have aF:(Int.ofNat j).toNat=j:=rfl
 have aG:min j k.bits=j:=by omega
 have bJ:(Int.ofNat i).fdiv (2^j)=((i/2^j:Nat):Int):=by
  have:(2:Int)^j=((2^j:Nat):Int):=by norm_cast
  rw[this]
  show((i:Int)).fdiv ((2^j:Nat):Int)=_
  rw[Int.fdiv_eq_ediv_of_nonneg _ (Int.natCast_nonneg _)]
  rfl
 simp only[l8,if_neg aM,aF,aG,bJ];rfl
theorem By{P:Program}{call:aE->List J->aa->ao}{l need t eU:Nat}{Γ hy Γ2:Env}{as cr:Code}{v:J}{h ab ae:aa}{q aR:bH}{e:bA}{r:a0}
  (au:h.get l=some (.loop .ready none need r [t] as cr eU))(hm:Mod r Γ)
  (bl:cD P need (some l) call as ⟨put t v Γ,[],.none,h⟩ .nrm ⟨hy,[],q,ab⟩)(cl:ab.get l=some (.loop .ready none need r [t] as cr eU))
  (ag:cD P need (some l) call cr ⟨hy,[],.none,ab.set l (some (.loop .busy none need r [t] as cr eU))⟩ e ⟨Γ2,[],aR,ae⟩)
  (ax:ae.get l=some (.loop .busy none need r [t] as cr eU)):
  oI P call l [v] h=J7 l e need r [t] as cr eU ae:=by
 obtain⟨bq,aF,c9⟩:=bl _ (hm.put t v)
 obtain⟨a9,aG,jr⟩:=ag _ c9
 simp only at aF aG
 simp only[oI,au,td,aF,Ah,cl,aG]
 simp only[vm,ax]
 cases e<;>rfl
section
variable {P:Program}
theorem vZ{a b:TypeId}{SB k k':IntKind}{n:Int}{h:aa}(bl:P.underlying a=some (.int SB))(ag:P.underlying b=some (.int k')){m:Int}(hm:k'.wrap n=m):ec P a b (.int k n) h=.val (.int k' m) h:=by
 simp only[ec,bl,ag,hm]
theorem Kd{a b e:TypeId}{h:aa}{c:Nat}{cap:cE}{w:List UInt8}{rest:List J}{el lo up:Nat}{k:eE}(bl:P.underlying a=some (.slice e))(he:P.underlying e=some (.int .u8))(ag:P.underlying b=some .string)(pO:cap=.exact w.length\/cap=.a5 1)
  (au:h.get c=some (.cells (cK w++rest) el k lo up)):ec P a b (.slice c 0 w.length cap) h=.val (.str w) h:=by
 have aD:loadCells h c 0 w.length=some (cK w):=by
  have:=Bs (xs:=cK w) au
  rwa [o6] at this
 rcases pO with rfl|rfl<;>simp only[ec,bl,he,ag,aD,Bv]
theorem Ke:∀(n:Nat) (z:J),gv n [z]=List.replicate n z
 |0,z=>rfl
 |n+1,z=>by rw[gv,Ke n z,List.singleton_append,List.replicate_succ]
theorem SC{h:aa}{t e:TypeId}{n:Nat}{i:TypeInfo}(hu:P.underlying t=some (.slice e))(hi:P.info? e=some i)(bX:i.size=1)(n5:i.bytes=1)(bj:fq P e=some (.int .u8 (Int.ofNat 0)))(aM:0<n)(hle:n<=1000000):
  vQ P h t (.int .i64 (Int.ofNat n)) (.int .i64 (Int.ofNat n))=some (.slice h.n 0 n (.exact n),h.push (.cells (List.replicate n (.int .u8 (Int.ofNat 0))) e .own 0 0)):=by
 have ab:(decide (n<=n)&&Nat.ble (n*(i.bytes+1)) 1099511627776&&Nat.beq (J.cells (.int .u8 (Int.ofNat 0))).length i.size)=true:=by
  rw[n5,bX]
  have:n*(1+1)<=1099511627776:=by omega
  simp[J.cells,this]
 have ae:¬(n*i.size=0):=by rw[bX];omega
 have aB:(List.replicate n (J.int .u8 (Int.ofNat 0))).all J.cu=true:=by
  simp[List.all_replicate,J.cu]
 have aP:gv n (J.cells (.int .u8 (Int.ofNat 0)))=List.replicate n (J.int .u8 (Int.ofNat 0)):=Ke n _
 unfold vQ
 simp only[hu,gb,hi,bj,ab,if_true,if_neg ae,aP,newRow,aB]
end
end aC
namespace aC
open Go
theorem nv{a b:Nat}(h:a=b):ba (Int.ofNat a) (Int.ofNat b)=true:=by subst h;simp[ba]
theorem jX{a b:Nat}(h:¬a=b):ba (Int.ofNat a) (Int.ofNat b)=false:=by
 cases ad:ba (Int.ofNat a) (Int.ofNat b) with
 |false=>rfl
 |true=>simp[ba] at ad;omega
theorem SD(m l:Nat):j9 .own 0 0 m l=true:=by unfold j9;simp
theorem yy(m l:Nat):j9 .a5 0 0 m l=true:=by unfold j9;simp
theorem Kf{h:aa}{b el:Nat}{k:eE}{l r:List J}{x y:J}(ax:k=.own\/k=.a5)(au:h.get b=some (.cells (l++y::r) el k 0 0)){off:Nat}(a7:off=l.length)(ad:x.cu=true):
  aC.storeCells h b off [x]=some (h.set b (some (.cells (l++x::r) el k 0 0))):=by
 subst a7
 have aU:=J6 l [] x y r ad
 rcases ax with rfl|rfl
 · have hw:=SD l.length [x].length
   simp only[aC.storeCells,au,hw,aU]
 · have hw:=yy l.length [x].length
   simp only[aC.storeCells,au,hw,aU]
structure di(p B:Nat)(h an:aa):Prop where
 n:h.n<=an.n
 get:∀b,b<B->b≠p->an.get b=h.get b
theorem Ext.mg{B:Nat}{h an:aa}(e:Ext B h an)(p:Nat):di p B h an:=⟨e.n,λb ag _=>e.get b ag⟩
theorem di.refl(p B:Nat)(h:aa):di p B h h:=⟨Nat.le_refl _,λ_ _ _=>rfl⟩
theorem di.trans{p B jv:Nat}{h ab ae:aa}(b4:B<=jv)(e:di p B h ab)(ed:di p jv ab ae):di p B h ae:=⟨Nat.le_trans e.n ed.n,λb ag aU=>(ed.get b (Nat.lt_of_lt_of_le ag b4) aU).trans (e.get b ag aU)⟩
theorem di.set{p B:Nat}{h:aa}(o:Option cJ):di p B h (h.set p o):=⟨by simp,λc _ aU=>by rw[aa.bV,if_neg aU]⟩
theorem di.push{p B:Nat}{h:aa}(b4:B<=h.n)(o:cJ):di p B h (h.push o):=(Ext.push b4 o).mg p
theorem di.Kg{p B:Nat}{h an:aa}(e:di p B h an)(aU:B<=p):Ext B h an:=⟨e.n,λb ag=>e.get b ag (by omega)⟩
theorem di.le{p B jv:Nat}{h an:aa}(e:di p jv h an)(b4:B<=jv):di p B h an:=⟨e.n,λb ag=>e.get b (by omega)⟩
theorem Ext.le{B jv:Nat}{h an:aa}(e:Ext jv h an)(b4:B<=jv):Ext B h an:=⟨e.n,λb ag=>e.get b (by omega)⟩
end aC
namespace aC
open Go
theorem eB{h:aa}{o:cJ}{b:Nat}(ag:b=h.n):(h.push o).get b=some o:=by subst ag;rw[aa.e6,if_pos rfl]
theorem hj{h:aa}{o:cJ}{b:Nat}{x:Option cJ}(ag:b<h.n)(ad:h.get b=x):(h.push o).get b=x:=by rw[aa.e6,if_neg (by omega)];exact ad
theorem dF{h:aa}{o:cJ}{b c:Nat}(ag:b=c):(h.set c (some o)).get b=some o:=by subst ag;rw[aa.bV,if_pos rfl]
theorem et{h:aa}{b c:Nat}{o x:Option cJ}(ag:¬b=c)(ad:h.get b=x):(h.set c o).get b=x:=by rw[aa.bV,if_neg ag];exact ad
theorem eH{h:aa}{k b:Nat}{x:Option cJ}(ad:h.get b=x):(h.room k).get b=x:=ad
theorem Kh{B b:Nat}{h g:aa}{x:Option cJ}(e:Ext B h g)(ag:b<B)(ad:h.get b=x):g.get b=x:=(e.get b ag).trans ad
theorem Ki{B b p:Nat}{h g:aa}{x:Option cJ}(e:di p B h g)(ag:b<B)(aU:¬b=p)(ad:h.get b=x):g.get b=x:=(e.get b ag aU).trans ad
theorem ar{h:aa}{b off:Nat}{cs:List J}{e lo up:Nat}{k:eE}{v:J}(au:h.get b=some (.cells cs e k lo up))(aM:nth off cs=some v):av h b off=some v:=by simp only[av,au,aM]
theorem ie{h:aa}{b off m:Nat}{cs vs:List J}{e lo up:Nat}{k:eE}(au:h.get b=some (.cells cs e k lo up))(aM:takeN m (jB off cs)=some vs):aC.loadCells h b off m=some vs:=by simp only[aC.loadCells,au,aM]
theorem dP{h:aa}{b off:Nat}{xs cs b9:List J}{e lo up:Nat}{k:eE}(au:h.get b=some (.cells cs e k lo up))(hw:j9 k lo up off xs.length=true)(aU:eP off xs cs=some b9):aC.storeCells h b off xs=some (h.set b (some (.cells b9 e k lo up))):=by simp only[aC.storeCells,au,hw,aU]
theorem Ext.fP{B b:Nat}{h g:aa}{o:Option cJ}(ag:B<=b)(e:Ext B h g):Ext B h (g.set b o):=e.trans (Nat.le_refl _) (Ext.set ag _)
theorem Ext.k0{B:Nat}{h g:aa}{o:cJ}(b4:B<=g.n)(e:Ext B h g):Ext B h (g.push o):=e.trans (Nat.le_refl _) (Ext.push b4 _)
theorem Ext.hW{B k:Nat}{h g:aa}(e:Ext B h g):Ext B h (g.room k):=⟨Nat.le_trans e.n (Nat.le_add_right _ _),e.get⟩
theorem Ext.EP{B jv:Nat}{h g ep:aa}(x:Ext jv g ep)(b4:B<=jv)(e:Ext B h g):Ext B h ep:=e.trans b4 x
theorem Ext.ER{B jv p:Nat}{h g ep:aa}(x:di p jv g ep)(b4:B<=jv)(aU:B<=p)(e:Ext B h g):Ext B h ep:=e.trans (Nat.le_refl _) ((x.le b4).Kg aU)
theorem di.yz{B p:Nat}{h g:aa}{o:Option cJ}(e:di p B h g):di p B h (g.set p o):=e.trans (Nat.le_refl _) (di.set _)
theorem di.fP{B b p:Nat}{h g:aa}{o:Option cJ}(ag:B<=b)(e:di p B h g):di p B h (g.set b o):=e.trans (Nat.le_refl _) ((Ext.set ag _).mg p)
theorem di.k0{B p:Nat}{h g:aa}{o:cJ}(b4:B<=g.n)(e:di p B h g):di p B h (g.push o):=e.trans (Nat.le_refl _) (di.push b4 _)
theorem di.EP{B jv p:Nat}{h g ep:aa}(x:Ext jv g ep)(b4:B<=jv)(e:di p B h g):di p B h ep:=e.trans b4 (x.mg p)
theorem di.ER{B jv p:Nat}{h g ep:aa}(x:di p jv g ep)(b4:B<=jv)(e:di p B h g):di p B h ep:=e.trans b4 x
theorem uf(a:List UInt8):cF a a=true:=by
 induction a with
 |nil=>rfl
 |cons x l bt=>simp[cF,bt]
theorem SE(a b:Int):lg mz (.int .i64 a) [.int .i64 b]=some (.int .i64 (min a b)):=by
 simp only[lg,mz,if_true]
 by_cases h:b<a
 · have aD:br b a=true:=by simp[br];omega
   rw[if_pos aD,Int.min_eq_right (by omega)]
 · have aD:¬br b a=true:=by simp[br];omega
   rw[if_neg aD,Int.min_eq_left (by omega)]
theorem SF(a b:Nat):lg mz (.int .i64 (Int.ofNat a)) [.int .i64 (Int.ofNat b)]=some (.int .i64 (Int.ofNat (min a b))):=by
 rw[SE];congr 2
 show min (a:Int) (b:Int)=((min a b:Nat):Int)
 omega
theorem SG{B:Nat}{h g:aa}(e:Ext B h g:=by repeat (first|with_reducible exact Ext.refl _ _|with_reducible assumption|with_reducible refine Ext.hW ?_|with_reducible refine Ext.fP (by first|omega|(simp only[aa.e7,aa.fR,aa.hh];omega)) ?_|with_reducible refine Ext.k0 (by first|omega|(simp only[aa.e7,aa.fR,aa.hh];omega)) ?_|with_reducible refine Ext.EP (by with_reducible assumption) (by first|omega|(simp only[aa.e7,aa.fR,aa.hh];omega)) ?_|with_reducible refine Ext.ER (by with_reducible assumption) (by first|omega|(simp only[aa.e7,aa.fR,aa.hh];omega)) (by first|omega|(simp only[aa.e7,aa.fR,aa.hh];omega)) ?_|refine Ext.fP (by first|omega|(simp only[aa.e7,aa.fR,aa.hh];omega)) ?_)):Ext B h g:=e
theorem v3{B p:Nat}{h g:aa}(e:di p B h g:=by repeat (first|with_reducible exact di.refl _ _ _|with_reducible assumption|with_reducible refine di.yz ?_|with_reducible refine di.fP (by first|omega|(simp only[aa.e7,aa.fR,aa.hh];omega)) ?_|with_reducible refine di.k0 (by first|omega|(simp only[aa.e7,aa.fR,aa.hh];omega)) ?_|with_reducible refine di.EP (by with_reducible assumption) (by first|omega|(simp only[aa.e7,aa.fR,aa.hh];omega)) ?_|with_reducible refine di.ER (by with_reducible assumption) (by first|omega|(simp only[aa.e7,aa.fR,aa.hh];omega)) ?_)):di p B h g:=e
theorem jH{h:aa}{b off:Nat}{cs:List J}{e lo up:Nat}{k:eE}{v:J}(aM:nth off cs=some v)(au:h.get b=some (.cells cs e k lo up):=by repeat (first|with_reducible assumption|(with_reducible refine eB ?_;first|with_reducible rfl|(first|omega|(simp only[aa.e7,aa.fR,aa.hh];omega)))|with_reducible refine eH ?_|with_reducible refine hj (by first|omega|(simp only[aa.e7,aa.fR,aa.hh];omega)) ?_|with_reducible exact dF rfl|with_reducible refine et (by first|omega|(simp only[aa.e7,aa.fR,aa.hh];omega)) ?_|with_reducible refine Kh (by with_reducible assumption) (by first|omega|(simp only[aa.e7,aa.fR,aa.hh];omega)) ?_|with_reducible refine Ki (by with_reducible assumption) (by first|omega|(simp only[aa.e7,aa.fR,aa.hh];omega)) (by first|omega|(simp only[aa.e7,aa.fR,aa.hh];omega)) ?_|exact dF rfl|refine et (by first|omega|(simp only[aa.e7,aa.fR,aa.hh];omega)) ?_)):av h b off=some v:=ar au aM
theorem lT{h:aa}{b off:Nat}{xs cs b9:List J}{e lo up:Nat}{k:eE}(hw:j9 k lo up off xs.length=true)(aU:eP off xs cs=some b9)(au:h.get b=some (.cells cs e k lo up):=by repeat (first|with_reducible assumption|(with_reducible refine eB ?_;first|with_reducible rfl|(first|omega|(simp only[aa.e7,aa.fR,aa.hh];omega)))|with_reducible refine eH ?_|with_reducible refine hj (by first|omega|(simp only[aa.e7,aa.fR,aa.hh];omega)) ?_|with_reducible exact dF rfl|with_reducible refine et (by first|omega|(simp only[aa.e7,aa.fR,aa.hh];omega)) ?_|with_reducible refine Kh (by with_reducible assumption) (by first|omega|(simp only[aa.e7,aa.fR,aa.hh];omega)) ?_|with_reducible refine Ki (by with_reducible assumption) (by first|omega|(simp only[aa.e7,aa.fR,aa.hh];omega)) (by first|omega|(simp only[aa.e7,aa.fR,aa.hh];omega)) ?_|exact dF rfl|refine et (by first|omega|(simp only[aa.e7,aa.fR,aa.hh];omega)) ?_)):aC.storeCells h b off xs=some (h.set b (some (.cells b9 e k lo up))):=dP au hw aU
end aC
