/-
  PROVED HERE: symbolic runs of the evaluator, and that they are sound (Sxa). No condition beside each statement's own.
-/
import Derived.Test.YtfooahfebojldaaGreatDoorAed
set_option linter.unusedVariables false
set_option linter.unusedSimpArgs false
namespace ay
open Go
abbrev Env:=List (Nat×J)
def fy(t:Nat):Env->Option J
 |[]=>none
 |(u,v)::l=>match Nat.beq t u with
  |true=>some v
  |false=>fy t l
def del(t:Nat):Env->Env
 |[]=>[]
 |(u,v)::l=>match Nat.beq t u with
  |true=>del t l
  |false=>(u,v)::del t l
def put(t:Nat)(v:J)(Γ:Env):Env:=(t,v)::del t Γ
def mD(Γ:Env):List Nat->Env
 |[]=>[]
 |t::l=>match fy t Γ with
  |some v=>(t,v)::mD Γ l
  |none=>mD Γ l
def Mod(r:aU)(Γ:Env):Prop:=∀t v,fy t Γ=some v->r.get (hc t)=v
structure ar where
 Γ:Env
 d:List bC
 q:bG
 h:aa
inductive Hint where
 |v (v:J)
 |fS (v:J) (h:aa)
 |c (v:J) (h:aa)
 |p (v:J) (h:aa)
 |b (b:Bool)
 |loop (e:bK) (st:ar)
 |Ub (v:J) (o:b3)
 |o (v:J)
 |E7
def e2:List Prop->Prop
 |[]=>True
 |p::l=>p/\e2 l
theorem e2.cons{p:Prop}{l:List Prop}(h:p)(t:e2 l):e2 (p::l):=⟨h,t⟩
theorem e2.nil:e2 []:=trivial
theorem e2.append:∀{l m:List Prop},e2 (l++m)->e2 l/\e2 m
 |[],m,h=>⟨trivial,h⟩
 |p::l,m,h=>⟨⟨h.1,(e2.append h.2).1⟩,(e2.append h.2).2⟩
def nA(m:Nat)(env:List J)(Γ:Env):Acc->Option J
 |.env j=>nth (m-1-j) env
 |.lh p=>fy p.num Γ
 |.val v=>some v
def E8(o:Oper)(g:Operand->J):Nat:=match o.op with
 |.load .. |.slice .. |.index .. |.indexAddr .. |.lookup .. |.entry .. =>1
 |.binOp op _ x y _=>match op,g x,g y with
  |.eql,.int _ _,.int _ _|.neq,.int _ _,.int _ _|.lss,.int _ _,.int _ _|.leq,.int _ _,.int _ _|.gtr,.int _ _,.int _ _|.geq,.int _ _,.int _ _=>0
  |.eql,.str _,.str _|.neq,.str _,.str _|.lss,.str _,.str _|.leq,.str _,.str _|.gtr,.str _,.str _|.geq,.str _,.str _=>0
  |_,_,_=>1
 |.unOp op _ _=>match op with
  |.not=>0
  |_=>1
 |.convert _ _ x=>match g x with
  |.str _=>2
  |_=>1
 |.range _ x=>match g x with
  |.map _=>2
  |_=>0
 |.store .. |.mapUpdate .. |.mapEntry .. |.entryStore .. |.insert .. |.next .. |.makeSlice .. =>2
 |.call c=>match c.callee with
  |.builtin b=>match b with
   |.len=>match c.args.toList.map g with
    |[.map _]=>1
    |_=>0
   |.cap|.min|.max|.unsafeSliceData=>1
   |.append|.copy|.clear|.delete|.unsafeString=>2
   |_=>0
  |_=>0
 |_=>0
def mE(n:Nat)(s:List UInt8):Option J:=match nth n s with
 |some b=>some (.int .u8 (Int.ofNat b.toNat))
 |none=>none
def ov(P:Program)(o:Oper)(g:Operand->J)(h:aa)(v:J):Prop:=match o.op with
 |.load t a=>match g a,lf P t,dm P t with
  |.ptr b off,some false,some _=>aA h b off=some v
  |.ptr b off,some true,some n=>match v with
   |.agg cs=>loadCells h b off n=some cs
   |_=>False
  |_,_,_=>False
 |.binOp op t x y _=>match g x,g y with
  |.int k a,.int ew b=>match op with
   |.shl=>ml .shl k a b=some v
   |.shr=>ml .shr k a b=some v
   |op=>match decide (k=ew) with
    |true=>arith op k a b=some v
    |false=>False
  |.str a,.str b=>o5 op a b=some v
  |a,b=>er P h op t x y a b=some v
 |.slice t x aW af mx=>dR P h t (g x) (aW.map g) (af.map g) (mx.map g)=some v
 |.index t x i=>match P.underlying t,g x,fF (g i) with
  |some .string,.str s,some n=>mE n s=some v
  |some (.array m e),.agg cs,some n=>match dm P e with
   |some sz=>n<m/\lg P e cs (n*sz)=some v
   |none=>False
  |_,_,_=>False
 |.indexAddr t x i=>match P.underlying t,g x,fF (g i) with
  |some (.array m e),.ptr b off,some n=>match dm P e with
   |some sz=>n<m/\v=.ptr b (off+n*sz)
   |none=>False
  |some (.slice e),.slice b off m c,some n=>match dm P e with
   |some sz=>n<m/\v=.ptr b (off+n*sz)
   |none=>False
  |_,_,_=>False
 |.lookup t x i ok=>At P h t (g x) (g i) ok=some v
 |.entry it=>Az h (g it)=some v
 |.unOp op _ x=>match op,g x with
  |.neg,.int k n=>v=.int k (k.wrap (0-n))
  |.xor,.int k n=>arith .xor k (if k.signed then-1 else k.max) n=some v
  |_,_=>False
 |.convert src dst x=>ea P src dst (g x) h=.val v h
 |.call c=>match c.callee,c.args.toList.map g,c.argTypes[0]? with
  |.builtin .len,[x],some t=>cO P h t x=some v
  |.builtin .cap,[x],some t=>Ao P t x=some v
  |.builtin .min,x::l,_=>iA jy x l=some v
  |.builtin .max,x::l,_=>iA xl x l=some v
  |.builtin .unsafeSliceData,[x],some t=>iD P .unsafeSliceData #[t] [x] h=.val v h
  |_,_,_=>False
 |_=>False
def vR(P:Program)(h:aa)(t:TypeId)(l c:J):Option (J×aa):=match P.underlying t,fF l,fF c with
 |some (.slice e),some l,some c=>match P.info? e,eG P e with
  |some i,some z=>if l<=c&&Nat.ble (c*(i.bytes+1)) 1099511627776&&Nat.beq z.cells.length i.size then(match newRow h e (if c*i.size=0 then[] else e8 c z.cells) with
   |some (b,an)=>some (.slice b 0 l (.exact c),an)
   |none=>none) else none
  |_,_=>none
 |_,_,_=>none
def KT(h:aa):J->Option (J×aa)
 |.map m=>match h.get m with
  |some (.map _ c)=>some (.ptr h.n 0,h.push (.mapIter (some m) c [] c))
  |_=>none
 |_=>none
def vS(P:Program)(o:Oper)(g:Operand->J)(h:aa)(v:J)(an:aa):Prop:=match o.op with
 |.store t a x=>match g a with
  |.ptr b off=>dm P t=some (g x).cells.length/\storeCells h b off (g x).cells=some an/\v=.aD []
  |_=>False
 |.convert src dst x=>ea P src dst (g x) h=.val v an
 |.mapUpdate t m k x=>vk P h t (g m) (g k) (g x)=some an/\v=.aD []
 |.insert t m k x=>vk P h t (g m) (g k) (g x)=some an/\v=.aD []
 |.mapEntry t m k=>Au P h t (g m) (g k)=some (v,an)
 |.entryStore t m s x=>Av h (g m) (g s) (g x)=some an/\v=.aD []
 |.next it isStr=>Ax h (g it) isStr=some (v,an)
 |.range t x=>match P.underlying t with
  |some (.map _ _)=>KT h (g x)=some (v,an)
  |_=>False
 |.makeSlice t l c=>vR P h t (g l) (g c)=some (v,an)
 |.call c=>match c.callee,c.args.toList.map g,c.argTypes[0]? with
  |.builtin .append,[x,y],some t=>gl P h t c.argTypes[1]? x y=some (v,an)
  |.builtin .copy,[x,y],some t=>Ap P h t x y=some (v,an)
  |.builtin .clear,[x],some t=>o7 P h t x=some (v,an)
  |.builtin .delete,[x,y],some t=>Aw P h t x y=some (v,an)
  |.builtin .unsafeString,[x,y],some t=>qd P h t x y=some (v,an)
  |_,_,_=>False
 |_=>False
inductive mF where
 |ok (v:J) (d:List bC) (q:bG) (h:aa)
 |bk (v:J) (d:List bC) (q:bG) (h:aa)
def mF.res:mF->xt
 |.ok v d q h=>.ok v d q h
 |.bk v d q h=>.bk v d q h
inductive k3(α:Type 1) where
 |cG (a:α)
 |stop (jg:String) (x:Option Bool)
structure hi(α:Type):Type 1 where
 res:α
 cs:List Prop
 hs:List Hint
structure Uc(l:List J):Prop where
 h:l.all J.bF=true
def BB(call:aO->List J->aa->ax)(pos:String)(f:aO)(args:List J)(d:List bC)(q:bG)(h:aa):List Hint->k3 (hi mF)
 |.c v an::hs=>.cG ⟨.ok v d q an,[call f args h=.ret v an],hs⟩
 |.p v an::hs=>.cG ⟨.bk v d q an,[call f args h=.bk v an],hs⟩
 |_=>.stop ("call " ++pos) none
def Ud(P:Program)(o:Oper):Bool:=match o.op with
 |.call c=>match c.callee with
  |.builtin b=>match b with
   |.len=>true
   |_=>false
  |_=>false
 |.binOp op t _ _ _=>match op with
  |.eql|.neq=>match P.underlying t with
   |some (.int _)=>false
   |some .string=>false
   |some .bool=>false
   |some _=>true
   |none=>false
  |_=>false
 |_=>false
def Ue(P:Program)(o:Oper):List Hint->Option (J×List Hint)
 |.o v::hs=>match Ud P o with
  |true=>some (v,hs)
  |false=>none
 |_=>none
def KU(o:Oper):List Hint->Option (TypeId×Operand×List Hint)
 |.E7::hs=>match o.op with
  |.box e x=>some (e,x,hs)
  |_=>none
 |_=>none
def E9(P:Program)(inR:Bool)(call:aO->List J->aa->ax)(o:Oper)(g:Operand->J)(d:List bC)(q:bG)(h:aa)(hs:List Hint):k3 (hi mF):=
 match Ue P o hs with
 |some (v,hs)=>.cG ⟨.ok v d q h,[ov P o g h v],hs⟩
 |none=>match KU o hs with
  |some (e,x,hs)=>.cG ⟨.ok (.ptr h.n 0) d q (h.push (.cells (g x).cells e .own 0 0)),[Uc (g x).cells],hs⟩
  |none=>match E8 o g with
   |0=>match cD P o g h with
    |.val v an=>.cG ⟨.ok v d q an,[],hs⟩
    |.bk v an=>.cG ⟨.bk v d q an,[],hs⟩
    |.call f args an=>BB call o.pos (.fn f) args d q an hs
    |.bR l args an=>BB call o.pos (.bR l) args d q an hs
    |.ju x=>match inR with
     |true=>.stop "defer" none
     |false=>.cG ⟨.ok (.aD []) (x::d) q h,[],hs⟩
    |.sW=>match inR with
     |true=>.stop "recover" none
     |false=>match q with
      |.none=>.cG ⟨.ok .eO d .none h,[],hs⟩
      |.done v=>.cG ⟨.ok .eO d (.done v) h,[],hs⟩
      |.act v=>.cG ⟨.ok v d (.done v) h,[],hs⟩
    |.fail w=>.stop (w++ " " ++o.pos) none
   |1=>match hs with
    |.v v::hs=>.cG ⟨.ok v d q h,[ov P o g h v],hs⟩
    |_=>.stop ("value " ++o.pos) none
   |_=>match hs with
    |.fS v an::hs=>.cG ⟨.ok v d q an,[vS P o g h v an],hs⟩
    |_=>.stop ("value and memory " ++o.pos) none
def E_(o:Oper)(g:Operand->J)(d:List bC)(q:bG)(h:aa)(hs:List Hint):Option (k3 (hi mF)):=match o.op with
 |.pick c a b=>match g c with
  |.bool x=>match hs with
   |.b true::hs=>some (.cG ⟨.ok (g a) d q h,[x=true],hs⟩)
   |.b false::hs=>some (.cG ⟨.ok (g b) d q h,[x=false],hs⟩)
   |_=>some (.stop ("pick " ++o.pos) (some x))
  |_=>some (.stop ("pick of what " ++o.pos) none)
 |_=>none
def BC(P:Program)(inR:Bool)(call:aO->List J->aa->ax)(o:Oper)(g:Operand->J)(d:List bC)(q:bG)(h:aa)(hs:List Hint):k3 (hi mF):=match E_ o g d q h hs with
 |some r=>r
 |none=>E9 P inR call o g d q h hs
def vT(P:Program)(inR:Bool)(call:aO->List J->aa->ax)(gd:Option (J×Bool))(o:Oper)(g:Operand->J)(d:List bC)(q:bG)(h:aa)(hs:List Hint):k3 (hi mF):=
 match gd with
 |none=>BC P inR call o g d q h hs
 |some (.bool x,b)=>match hs with
  |.b c::hs=>match c==b with
   |true=>match BC P inR call o g d q h hs with
    |.cG ⟨s,cs,hs⟩=>.cG ⟨s,(x=c)::cs,hs⟩
    |.stop w x=>.stop w x
   |false=>.cG ⟨.ok (.aD []) d q h,[x=c],hs⟩
  |_=>.stop ("guard " ++o.pos) (some x)
 |some (.aD [],_)=>.cG ⟨.ok (.aD []) d q h,[],hs⟩
 |_=>.stop ("guard of what " ++o.pos) none
def vU(P:Program)(need m:Nat)(env:List J)(Γ:Env)(loc:List (Nat×Acc))(o:Oper):Bool:=o.op.operands.toList.all λx=>(nA m env Γ (cP P need loc x)).isSome
def k4(P:Program)(need m:Nat)(env:List J)(Γ:Env)(loc:List (Nat×Acc))(x:Operand):J:=(nA m env Γ (cP P need loc x)).getD .bad
def KV(env:List J)(Γ:Env)(s:Step):Option (Option (J×Bool)):=match s.guard with
 |none=>some none
 |some (a,b)=>match nA s.m env Γ a with
  |some v=>some (some (v,b))
  |none=>none
def BD(P:Program)(need:Nat)(inR:Bool)(call:aO->List J->aa->ax)(Γ:Env):List Step->List J->List bC->bG->aa->List Hint->k3 (hi mm)
 |[],env,d,q,h,hs=>.cG ⟨.ok env d q h,[],hs⟩
 |s::rest,env,d,q,h,hs=>
  match vU P need s.m env Γ s.loc s.o with
  |false=>.stop ("an operand " ++s.o.pos) none
  |true=>
   match KV env Γ s with
   |none=>.stop ("guard " ++s.o.pos) none
   |some gd=>match vT P inR call gd s.o (k4 P need s.m env Γ s.loc) d q h hs with
    |.cG ⟨.ok v bx bq an,cs,dF⟩=>match BD P need inR call Γ rest (v::env) bx bq an dF with
     |.cG ⟨x,bS,tJ⟩=>.cG ⟨x,cs++bS,tJ⟩
     |.stop w x=>.stop w x
    |.cG ⟨.bk v bx bq an,cs,dF⟩=>.cG ⟨.bk v bx bq an,cs,dF⟩
    |.stop w x=>.stop w x
def tK(need m:Nat)(env:List J)(gD:Env):List (Nat×Acc)->Env->Env
 |[],Γ=>Γ
 |(t,a)::l,Γ=>
  match Nat.testBit need t with
  |true=>match nA m env gD a with
   |some v=>put t v (tK need m env gD l Γ)
   |none=>del t (tK need m env gD l Γ)
  |false=>tK need m env gD l Γ
def BE:List (Nat×Acc)->Env->Env
 |[],Γ=>Γ
 |(t,_)::l,Γ=>del t (BE l Γ)
def aa.room(h:aa)(k:Nat):aa:=⟨h.t,h.n+k⟩
@[simp] theorem aa.adg (h:aa) (k b:Nat):(h.room k).get b=h.get b:=rfl
@[simp] theorem aa.hj (h:aa) (k:Nat):(h.room k).n=h.n+k:=rfl
abbrev nB:=List (Nat×Nat×aa)
structure jW where
 env:List J
 d:List bC
 q:bG
 h:aa
 a9:nB
def yu(P:Program)(need:Nat)(ops:Array Oper)(n:Nat)(env:List J)(Γ:Env)(s:DStep):Option (Option (J×Bool)):=match j8 P need ops s.loc s.o with
 |none=>some none
 |some (a,b)=>match nA n env Γ a with
  |some v=>some (some (v,b))
  |none=>none
def tL(s:DStep):nB->Bool
 |[]=>true
 |(e,_,_)::_=>Nat.testBit s.e9 e
def KW(P:Program)(t:TypeId)(l c:J)(b:Nat):Option (J×b3):=match P.underlying t,fF l,fF c with
 |some (.slice e),some l,some c=>match P.info? e,eG P e with
  |some i,some z=>match decide (l<=c)&&Nat.ble (c*(i.bytes+1)) 1099511627776&&Nat.beq z.cells.length i.size,(if c*i.size=0 then[] else e8 c z.cells) with
   |true,cs=>match cs.all J.bF with
    |true=>some (.slice b 0 l (.exact c),.cells cs e .own 0 0)
    |false=>none
   |_,_=>none
  |_,_=>none
 |_,_,_=>none
def KX(P:Program)(op:Op)(g:Operand->J)(b:Nat)(v:J)(o:b3):Prop:=match op with
 |.makeSlice t l c=>KW P t (g l) (g c) b=some (v,o)
 |_=>False
theorem KY{P:Program}{op:Op}{g:Operand->J}{b:Nat}{v:J}{o:b3}(h:KX P op g b v o):kb P op g b=some (v,o):=by
 cases op<;>first|exact h|exact absurd h id
def KZ(P:Program)(gd:Option (J×Bool))(s:DStep)(g:Operand->J)(b:Nat)(st:jW)(hs:List Hint):k3 (hi jW):=
 match gd with
 |none=>match hs with
  |.Ub v o::hs=>.cG ⟨⟨v::st.env,st.d,st.q,st.h.set b (some o),st.a9⟩,[KX P s.o.op g b v o],hs⟩
  |hs=>match kb P s.o.op g b with
   |some (v,o)=>.cG ⟨⟨v::st.env,st.d,st.q,st.h.set b (some o),st.a9⟩,[],hs⟩
   |none=>.stop ("alloc " ++s.o.pos) none
 |some (.bool x,c)=>match hs with
  |.b y::hs=>match y==c with
   |true=>match kb P s.o.op g b with
    |some (v,o)=>.cG ⟨⟨v::st.env,st.d,st.q,st.h.set b (some o),st.a9⟩,[x=y],hs⟩
    |none=>.stop ("alloc " ++s.o.pos) none
   |false=>.cG ⟨⟨.aD []::st.env,st.d,st.q,st.h,st.a9⟩,[x=y],hs⟩
  |_=>.stop ("guard " ++s.o.pos) (some x)
 |some (.aD [],_)=>.cG ⟨⟨.aD []::st.env,st.d,st.q,st.h,st.a9⟩,[],hs⟩
 |_=>.stop ("guard of what " ++s.o.pos) none
def BF(P:Program)(need:Nat)(inR:Bool)(call:aO->List J->aa->ax)(ops:Array Oper)(Γ:Env)(cF:Nat)(s:DStep)(st:jW)(hs:List Hint):k3 (hi jW):=
 match vU P need s.i st.env Γ s.loc s.o with
 |false=>.stop ("an operand " ++s.o.pos) none
 |true=>match yu P need ops s.i st.env Γ s with
  |none=>.stop ("guard " ++s.o.pos) none
  |some gd=>match kindOf P s.o.op with
   |.alloc=>KZ P gd s (k4 P need s.i st.env Γ s.loc) (cF+s.i) st hs
   |.pure=>match vT P inR call gd s.o (k4 P need s.i st.env Γ s.loc) st.d st.q st.h hs with
    |.cG ⟨.ok v _ _ _,cs,dF⟩=>.cG ⟨⟨v::st.env,st.d,st.q,st.h,st.a9⟩,cs,dF⟩
    |.cG ⟨.bk _ _ _ _,_,_⟩=>.stop ("a panic " ++s.o.pos) none
    |.stop w x=>.stop w x
   |.ey=>match tL s st.a9 with
    |false=>.stop ("order " ++s.o.pos) none
    |true=>match vT P inR call gd s.o (k4 P need s.i st.env Γ s.loc) st.d st.q st.h hs with
     |.cG ⟨.ok v bx bq an,cs,dF⟩=>.cG ⟨⟨v::st.env,bx,bq,an,(s.i,s.e9,st.h)::st.a9⟩,cs,dF⟩
     |.cG ⟨.bk _ _ _ _,_,_⟩=>.stop ("a panic " ++s.o.pos) none
     |.stop w x=>.stop w x
def BG(P:Program)(need:Nat)(inR:Bool)(call:aO->List J->aa->ax)(ops:Array Oper)(Γ:Env)(cF:Nat):List DStep->jW->List Hint->k3 (hi jW)
 |[],st,hs=>.cG ⟨st,[],hs⟩
 |s::rest,st,hs=>match BF P need inR call ops Γ cF s st hs with
  |.cG ⟨b2,cs,dF⟩=>match BG P need inR call ops Γ cF rest b2 dF with
   |.cG ⟨y,bS,tJ⟩=>.cG ⟨y,cs++bS,tJ⟩
   |.stop w x=>.stop w x
  |.stop w x=>.stop w x
def Fa(P:Program)(need:Nat)(inR:Bool)(call:aO->List J->aa->ax)(ops:Array Oper)(Γ:Env)(s:DStep)(rest:List DStep)(st:jW)(hs:List Hint):k3 (hi (J×jW)):=
 match vU P need s.i st.env Γ s.loc s.o with
 |false=>.stop ("an operand " ++s.o.pos) none
 |true=>match yu P need ops s.i st.env Γ s with
  |none=>.stop ("guard " ++s.o.pos) none
  |some gd=>match kindOf P s.o.op with
   |.ey=>match tL s st.a9 with
    |false=>.stop ("order " ++s.o.pos) none
    |true=>match vT P inR call gd s.o (k4 P need s.i st.env Γ s.loc) st.d st.q st.h hs with
     |.cG ⟨.bk v bx bq an,cs,dF⟩=>match rest.all (λa4=>Nat.testBit a4.e9 s.i) with
      |true=>.cG ⟨(v,⟨st.env,bx,bq,an,(s.i,s.e9,st.h)::st.a9⟩),cs,dF⟩
      |false=>.stop ("panic " ++s.o.pos) none
     |_=>.stop ("no panic " ++s.o.pos) none
   |_=>.stop ("no panic " ++s.o.pos) none
def BH(P:Program)(need:Nat)(inR:Bool)(call:aO->List J->aa->ax)(ops:Array Oper)(Γ:Env)(cF:Nat):List DStep->jW->List Hint->k3 (hi (J×jW))
 |[],_,_=>.stop "no panic" none
 |s::rest,st,hs=>match Fa P need inR call ops Γ s rest st hs with
  |.cG y=>.cG y
  |.stop _ _=>match BF P need inR call ops Γ cF s st hs with
   |.cG ⟨b2,cs,dF⟩=>match BH P need inR call ops Γ cF rest b2 dF with
    |.cG ⟨y,bS,tJ⟩=>.cG ⟨y,cs++bS,tJ⟩
    |.stop w x=>.stop w x
   |.stop w x=>.stop w x
mutual
def J.sound:J->Bool
 |.bad=>false
 |.fn _ a b=>jI a&&jI b
 |.iface _ v=>v.sound
 |.agg l=>jI l
 |.aD l=>jI l
 |_=>true
def jI:List J->Bool
 |[]=>true
 |a::l=>a.sound&&jI l
end
def K0(o:Oper)(g:Operand->J):Option (Bool×J×J):=match o.op with
 |.pick c a b=>match g c with
  |.bool x=>some (x,g a,g b)
  |_=>none
 |_=>none
def isLen(o:Oper):Bool:=match o.op with
 |.call c=>match c.callee with
  |.builtin .len=>true
  |_=>false
 |_=>false
def yv(P:Program)(o:Oper)(g:Operand->J)(h:aa)(v:J):List Prop:=match K0 o g with
 |some (x,a,b)=>[v.sound=true,cond x a b=v]
 |none=>match isLen o with
  |true=>[v.sound=true,ov P o g h v]
  |false=>match E8 o g with
   |1=>[v.sound=true,ov P o g h v]
   |_=>match cD P o g h with
    |.val v' _=>[v.sound=true,v'=v]
    |_=>[False]
def lookW(v:J)(q p:Prop):Prop:=match v with
 |.aD []=>q
 |_=>p
def Fb(P:Program)(need:Nat)(ops:Array Oper)(Γ:Env)(n:Nat)(env:List J)(s:DStep)(v:J)(h:aa):List Prop:=
 match vU P need n env Γ s.loc s.o,yu P need ops n env Γ s with
 |true,some gd=>match gd with
  |none=>yv P s.o (k4 P need n env Γ s.loc) h v
  |some (.bool x,b)=>[lookW v ((x==b)=false) (e2 (yv P s.o (k4 P need n env Γ s.loc) h v))]
  |some (.aD [],_)=>[]
  |_=>[False]
 |_,_=>[False]
def qE(s:DStep)(en:Option Nat)(a9:nB):Bool:=(match en with|none=>false|some e=>Nat.testBit s.e9 e)||(match a9 with|[]=>false|(_,m,_)::_=>Nat.testBit m s.i)
def vV(P:Program)(need:Nat)(ops:Array Oper)(Γ:Env)(n:Nat)(env:List J)(s:DStep)(v:J):Option Nat->aa->nB->List Prop
 |en,h,a9=>
  (match qE s en a9 with
   |true=>[]
   |false=>Fb P need ops Γ n env s v h)++
  (match a9 with
   |[]=>[]
   |(e,_,an)::rest=>vV P need ops Γ n env s v (some e) an rest)
def BI(P:Program)(need:Nat)(ops:Array Oper)(Γ:Env)(n:Nat)(env:List J)(h:aa)(a9:nB):List DStep->List Prop
 |[]=>[]
 |s::rest=>(match Nat.blt s.i n,kindOf P s.o.op with
   |true,.pure=>vV P need ops Γ n env s ((nth (n-1-s.i) env).getD .bad) none h a9
   |_,_=>[])++BI P need ops Γ n env h a9 rest
def BJ(P:Program)(need:Nat)(ops:Array Oper)(Γ:Env)(n:Nat)(env:List J)(last:Option Nat)(h:aa)(a9:nB):List DStep->List Prop
 |[]=>[]
 |s::rest=>(match Nat.blt s.i n,kindOf P s.o.op with
   |true,.pure=>vV P need ops Γ n env s ((nth (n-1-s.i) env).getD .bad) last h a9
   |_,_=>[])++BJ P need ops Γ n env last h a9 rest
def Fc(P:Program)(need:Nat)(inR:Bool)(call:aO->List J->aa->ax)(ops:Array Oper)(st:ar)(hs:List Hint):k3 (hi (bK×ar)):=
 match BH P need inR call ops st.Γ st.h.n (fk ops.toList 0 [] []) ⟨[],st.d,st.q,st.h.room ops.size,[]⟩ hs with
 |.cG ⟨(v,⟨env,d,q,h,(e,m,h0)::a9⟩),cs,dF⟩=>.cG ⟨(.bk v,⟨BE (iP ops.toList 0 []) st.Γ,d,q,h⟩),cs++BJ P need ops st.Γ env.length env (some e) h0 a9 (fk ops.toList 0 [] []),dF⟩
 |.cG _=>.stop "no panic" none
 |.stop w x=>.stop w x
def Fe(P:Program)(need:Nat)(inR:Bool)(call:aO->List J->aa->ax)(ops:Array Oper)(st:ar)(hs:List Hint):k3 (hi (bK×ar)):=
 match BG P need inR call ops st.Γ st.h.n (fk ops.toList 0 [] []) ⟨[],st.d,st.q,st.h.room ops.size,[]⟩ hs with
 |.cG ⟨⟨env,d,q,h,a9⟩,cs,dF⟩=>.cG ⟨(.nrm,⟨tK need env.length env st.Γ (iP ops.toList 0 []) st.Γ,d,q,h⟩),cs++BI P need ops st.Γ env.length env h a9 (fk ops.toList 0 [] []),dF⟩
 |.stop _ _=>Fc P need inR call ops st hs
def c9(P:Program)(need:Nat)(rd:Option Nat)(call:aO->List J->aa->ax)(c:Code)(st:ar)(e:bK)(b2:ar):Prop:=
 ∀r,Mod r st.Γ->∃r',dD P need rd call c r st.d st.q st.h=.ok e r' b2.d b2.q b2.h/\Mod r' b2.Γ
def Uf(need:Nat)(Γ:Env)(loc:List (Nat×Acc)):mm->Option (bK×ar)
 |.ok env d q h=>some (.nrm,⟨tK need env.length env Γ loc Γ,d,q,h⟩)
 |.bk v d q h=>some (.bk v,⟨BE loc Γ,d,q,h⟩)
 |.fail _=>none
def lx(P:Program)(need:Nat)(rd:Option Nat)(call:aO->List J->aa->ax):Code->ar->List Hint->k3 (hi (bK×ar))
 |.skip,st,hs=>.cG ⟨(.nrm,st),[],hs⟩
 |.label _,st,hs=>.cG ⟨(.nrm,st),[],hs⟩
 |.exit id,st,hs=>.cG ⟨(.exit id,st),[],hs⟩
 |.ret,st,hs=>.cG ⟨(.ret,st),[],hs⟩
 |.scope b,st,hs=>lx P need rd call b st hs
 |.region id ops draw,st,hs=>
  match draw with
  |false=>
   match BD P need rd.isSome call st.Γ (o9 P need ops).steps [] st.d st.q st.h hs with
   |.cG ⟨x,cs,dF⟩=>match Uf need st.Γ (o9 P need ops).loc x with
    |some r=>.cG ⟨r,cs,dF⟩
    |none=>.stop "region" none
   |.stop w x=>.stop w x
  |true=>Fe P need rd.isSome call ops st hs
 |.seq a b,st,hs=>match lx P need rd call a st hs with
  |.cG ⟨(.nrm,b2),cs,dF⟩=>match lx P need rd call b b2 dF with
   |.cG ⟨r,bS,tJ⟩=>.cG ⟨r,cs++bS,tJ⟩
   |.stop w x=>.stop w x
  |x=>x
 |.cond c a b,st,hs=>match nA 0 [] st.Γ (cP P need [] c) with
  |some (.bool x)=>match hs with
   |.b true::hs=>match lx P need rd call a st hs with
    |.cG ⟨r,cs,dF⟩=>.cG ⟨r,(x=true)::cs,dF⟩
    |.stop w x=>.stop w x
   |.b false::hs=>match lx P need rd call b st hs with
    |.cG ⟨r,cs,dF⟩=>.cG ⟨r,(x=false)::cs,dF⟩
    |.stop w x=>.stop w x
   |_=>.stop "if" (some x)
  |_=>.stop "if what" none
 |.block id b,st,hs=>match lx P need rd call b st hs with
  |.cG ⟨(.exit i,b2),cs,dF⟩=>match Nat.beq i id with
   |true=>.cG ⟨(.nrm,b2),cs,dF⟩
   |false=>.cG ⟨(.exit i,b2),cs,dF⟩
  |x=>x
 |.loop b,st,hs=>match hs with
  |.loop e b2::hs=>.cG ⟨(e,b2),[c9 P need rd call (.loop b) st e b2],hs⟩
  |_=>.stop "loop" none
 |.rangeFunc f ps as cb,st,hs=>match hs with
  |.loop e b2::hs=>.cG ⟨(e,b2),[c9 P need rd call (.rangeFunc f ps as cb) st e b2],hs⟩
  |_=>.stop "range over a function" none
 |.goto _,_,_=>.stop "goto" none
 |.refuse _,_,_=>.stop "refuse" none
end ay
namespace ay
open Go
theorem Ff:∀(p q:ib),p.num=q.num->p=q
 |.here,.here,_=>rfl
 |.here,.l q,h=>by simp only[ib.num] at h;omega
 |.here,.r q,h=>by simp only[ib.num] at h;omega
 |.l p,.here,h=>by simp only[ib.num] at h;omega
 |.r p,.here,h=>by simp only[ib.num] at h;omega
 |.l p,.l q,h=>by rw[Ff p q (by simp only[ib.num] at h;omega)]
 |.r p,.r q,h=>by rw[Ff p q (by simp only[ib.num] at h;omega)]
 |.l p,.r q,h=>by simp only[ib.num] at h;omega
 |.r p,.l q,h=>by simp only[ib.num] at h;omega
theorem K1(p:ib):hc p.num=p:=Ff _ _ (AH _)
theorem tM(t u:Nat):(t=u/\Nat.beq t u=true)\/(t≠u/\Nat.beq t u=false):=by
 by_cases h:t=u
 · exact .inl ⟨h,by simp[h]⟩
 · refine .inr ⟨h,?_⟩
   cases ag:Nat.beq t u with
   |false=>rfl
   |true=>exact absurd (Nat.eq_of_beq_eq_true ag) h
theorem Fg(t u:Nat):∀Γ:Env,fy t (del u Γ)=if t=u then none else fy t Γ
 |[]=>by simp[del,fy]
 |(x,v)::l=>by
  have bp:=Fg t u l
  simp only[del]
  rcases tM u x with⟨e,ag⟩|⟨e,ag⟩
  · rw[ag];simp only[bp,fy]
    subst e
    rcases tM t u with⟨aC,dS⟩|⟨aC,dS⟩
    · rw[if_pos aC,if_pos aC]
    · rw[if_neg aC,if_neg aC,dS]
  · rw[ag];simp only[fy,bp]
    rcases tM t x with⟨aC,dS⟩|⟨aC,dS⟩
    · rw[dS];simp only[]
      rw[if_neg]
      intro h;exact e (by rw[<-h,aC])
    · rw[dS]
theorem Ug(t u:Nat)(v:J)(Γ:Env):fy t (put u v Γ)=if t=u then some v else fy t Γ:=by
 simp only[put,fy]
 rcases tM t u with⟨e,ag⟩|⟨e,ag⟩
 · rw[ag,if_pos e]
 · rw[ag,if_neg e,Fg,if_neg e]
theorem Mod.put{r:aU}{Γ:Env}(h:Mod r Γ)(t:Nat)(v:J):Mod (r.set (hc t) v) (put t v Γ):=by
 intro u x ad
 rw[Ug] at ad
 rw[aU.bH]
 by_cases e:u=t
 · rw[if_pos e] at ad⊢;cases ad;rfl
 · rw[if_neg e] at ad⊢;exact h u x ad
theorem Mod.del{r:aU}{Γ:Env}(h:Mod r Γ)(t:Nat)(v:J):Mod (r.set (hc t) v) (del t Γ):=by
 intro u x ad
 rw[Fg] at ad
 rw[aU.bH]
 by_cases e:u=t
 · rw[if_pos e] at ad;cases ad
 · rw[if_neg e] at ad⊢;exact h u x ad
theorem Fh(Γ:Env)(t:Nat)(v:J):∀l,fy t (mD Γ l)=some v->fy t Γ=some v
 |[],h=>by simp[mD,fy] at h
 |u::l,h=>by
  simp only[mD] at h
  cases hu:fy u Γ with
  |none=>rw[hu] at h;exact Fh Γ t v l h
  |some x=>
   rw[hu] at h
   simp only[fy] at h
   rcases tM t u with⟨e,ag⟩|⟨e,ag⟩
   · rw[ag] at h;rw[e,hu];exact h
   · rw[ag] at h;exact Fh Γ t v l h
theorem Mod.mD{r:aU}{Γ:Env}(h:Mod r Γ)(l:List Nat):Mod r (mD Γ l):=λt v a2=>h t v (Fh Γ t v l a2)
theorem tN{m:Nat}{env:List J}{r:aU}{Γ:Env}(hm:Mod r Γ){a:Acc}{v:J}(h:nA m env Γ a=some v):d_ m env r a=v:=by
 cases a with
 |env j=>simp only[nA] at h;simp only[d_,h,Option.getD_some]
 |lh p=>simp only[nA] at h;simp only[d_];rw[<-K1 p];exact hm _ _ h
 |val x=>cases h;rfl
section
variable {P:Program}
theorem tO{o:Oper}{g:Operand->J}{h:aa}{v:J}(ah:ov P o g h v):cD P o g h=.val v h:=by
 obtain⟨dst,op,type,pos,after,guard⟩:=o
 cases op<;>simp only[ov] at ah<;>(try exact ah.elim)
 case load t a=>
  split at ah
  · rename_i b off n ao a5 aJ
    simp only[cD,ao,a5,ah,fX]
  · rename_i b off n ao a5 aJ
    split at ah
    · simp only[cD,ao,a5,aJ,ah]
    · exact ah.elim
  · exact ah.elim
 case binOp op t x y yt=>
  split at ah
  · rename_i k a ew b ad a6
    split at ah
    · simp only[cD,ad,a6,er,ah,fX]
    · simp only[cD,ad,a6,er,ah,fX]
    · rename_i gM kh
      split at ah
      · rename_i au
        have fJ:k=ew:=of_decide_eq_true au
        simp only[cD,ad,a6,er]
        cases op<;>first|exact absurd rfl gM|exact absurd rfl kh|(simp only[if_pos fJ,ah,fX])
      · exact ah.elim
  · rename_i a b ad a6
    simp only[cD,ad,a6,er,ah,fX]
  · simp only[cD,ah,fX]
 case unOp op t x=>
  split at ah
  · rename_i k n ad;simp only[cD,ad,ah]
  · rename_i k n ad;simp only[cD,ad,ah,fX]
  · exact ah.elim
 case slice t x aW af mx=>simp only[cD,ah,fX]
 case index t x i=>
  split at ah
  · rename_i s n hu ad af
    unfold mE at ah
    simp only[cD,hu,ad,af]
    split at ah
    · rename_i dT ag;cases ah;simp only[ag]
    · cases ah
  · rename_i m e cs n hu ad af
    split at ah
    · rename_i sz bE
      simp only[cD,hu,ad,af,bE,if_pos ah.1,ah.2,fX]
    · exact ah.elim
  · exact ah.elim
 case indexAddr t x i=>
  split at ah
  · rename_i m e b off n hu ad af
    split at ah
    · rename_i sz bE
      simp only[cD,hu,ad,af,bE,if_pos ah.1,ah.2]
    · exact ah.elim
  · rename_i e b off m c n hu ad af
    split at ah
    · rename_i sz bE
      simp only[cD,hu,ad,af,bE,if_pos ah.1,ah.2]
    · exact ah.elim
  · exact ah.elim
 case lookup t x i ok=>simp only[cD,ah,fX]
 case entry it=>simp only[cD,ah,fX]
 case convert src dst x=>simp only[cD,ah]
 case call c=>
  split at ah
  · rename_i x t jn hF a2;simp only[cD,jn,hF,iD,a2,ah,fX]
  · rename_i x t jn hF a2;simp only[cD,jn,hF,iD,a2,ah,fX]
  · rename_i x l _ jn hF;simp only[cD,jn,hF,iD,ah,fX]
  · rename_i x l _ jn hF;simp only[cD,jn,hF,iD,ah,fX]
  · rename_i x t jn hF a2
    simp only[cD,jn,hF]
    simp only[iD,a2] at ah⊢
    exact ah
  · exact ah.elim
theorem K2:∀(n:Nat) (cs bS:List J),eP n [J.bad] cs=some bS->False
 |0,[],_,h=>by simp[eP] at h
 |0,_::_,_,h=>by simp[eP,J.bF] at h
 |_+1,[],_,h=>by simp[eP] at h
 |n+1,c::cs,bS,h=>by
  simp only[eP] at h
  split at h
  · rename_i r ai;exact K2 n cs r ai
  · cases h
theorem Uh{h an:aa}{b off:Nat}(hs:ay.storeCells h b off (J.cells .bad)=some an):False:=by
 unfold ay.storeCells at hs
 split at hs
 · split at hs
   · split at hs
     · rename_i aY;exact K2 _ _ _ aY
     · cases hs
   · cases hs
 · cases hs
theorem Fi{o:Oper}{g:Operand->J}{h an:aa}{v:J}(ah:vS P o g h v an):cD P o g h=.val v an:=by
 obtain⟨dst,op,type,pos,after,guard⟩:=o
 cases op<;>simp only[vS] at ah<;>(try exact ah.elim)
 case store t a x=>
  split at ah
  · rename_i b off ao
    obtain⟨ab,ae,rfl⟩:=ah
    simp only[cD,ao]
    rw[ab]
    have ag:g x≠ .bad:=λag=>by
     rw[ag] at ae
     exact Uh ae
    cases r7:g x<;>first|exact absurd r7 ag|(rw[r7] at ae;simp[ae,qf])
  · exact ah.elim
 case convert src dst x=>simp only[cD,ah]
 case mapUpdate t m k x=>obtain⟨ab,rfl⟩:=ah;simp only[cD,ab,qf]
 case insert t m k x=>obtain⟨ab,rfl⟩:=ah;simp only[cD,ab,qf]
 case mapEntry t m k=>simp only[cD,ah,lj]
 case entryStore t m s x=>obtain⟨ab,rfl⟩:=ah;simp only[cD,ab,qf]
 case next it isStr=>simp only[cD,ah,lj]
 case range t x=>
  split at ah
  · rename_i c7 iB hu
    unfold KT at ah
    split at ah
    · rename_i m ao
      split at ah
      · rename_i es c hm
        cases ah
        simp only[cD,hu,ao,hm]
      · cases ah
    · cases ah
  · exact ah.elim
 case makeSlice t l c=>
  unfold vR at ah
  simp only[cD]
  split at ah
  · rename_i e nt c' hu aw yk
    split at ah
    · rename_i i z af a0
      simp only[hu,aw,yk,af,a0]
      split at ah
      · rename_i kF
        rw[if_pos kF]
        split at ah
        · rename_i b aj aJ;cases ah;simp only[aJ]
        · cases ah
      · cases ah
    · cases ah
  · cases ah
 case call c=>
  split at ah
  · rename_i x y t jn hF a2;simp only[cD,jn,hF,iD,a2,ah,lj]
  · rename_i x y t jn hF a2;simp only[cD,jn,hF,iD,a2,ah,lj]
  · rename_i x t jn hF a2;simp only[cD,jn,hF,iD,a2,ah,lj]
  · rename_i x y t jn hF a2;simp only[cD,jn,hF,iD,a2,ah,lj]
  · rename_i x y t jn hF a2;simp only[cD,jn,hF,iD,a2,ah,lj]
  · exact ah.elim
variable {inR:Bool} {call:aO->List J->aa->ax}
theorem K3{pos:String}{f:aO}{args:List J}{d:List bC}{q:bG}{h:aa}{hs:List Hint}{y:hi mF}(ad:BB call pos f args d q h hs=.cG y)(ah:e2 y.cs):xu d q (call f args h)=y.res.res:=by
 unfold BB at ad
 split at ad
 · cases ad;rw[ah.1];rfl
 · cases ad;rw[ah.1];rfl
 · cases ad
theorem Ui{o:Oper}{g:Operand->J}{d:List bC}{q:bG}{h:aa}{hs:List Hint}{y:hi mF}(ad:E9 P inR call o g d q h hs=.cG y)(ah:e2 y.cs):
  eb P inR call none o g d q h=y.res.res:=by
 unfold E9 at ad
 unfold eb
 simp only[eH]
 split at ad
 · cases ad
   rw[tO ah.1];rfl
 · split at ad
   · rename_i e x dF bn
     cases ad
     have ab:(g x).cells.all J.bF=true:=ah.1.h
     have he:o.op=.box e x:=by
      unfold KU at bn
      split at bn
      · split at bn
        · rename_i he;cases bn;exact he
        · cases bn
      · cases bn
     have:cD P o g h=.val (.ptr h.n 0) (h.push (.cells (g x).cells e .own 0 0)):=by
      unfold cD;rw[he];simp only[newRow,ab]
     rw[this];rfl
   · split at ad
     · split at ad
       · rename_i gK;cases ad;rw[gK];rfl
       · rename_i gK;cases ad;rw[gK];rfl
       · rename_i gK;rw[gK];exact K3 ad ah
       · rename_i gK;rw[gK];exact K3 ad ah
       · rename_i z gK
         split at ad
         · cases ad
         · cases ad;rw[gK];rfl
       · rename_i gK
         split at ad
         · cases ad
         · split at ad
           · cases ad;rw[gK];rfl
           · cases ad;rw[gK];rfl
           · cases ad;rw[gK];rfl
       · cases ad
     · split at ad
       · cases ad
         rw[tO ah.1];rfl
       · cases ad
     · split at ad
       · cases ad
         rw[Fi ah.1];rfl
       · cases ad
theorem K4{o:Oper}{g:Operand->J}{d:List bC}{q:bG}{h:aa}{hs:List Hint}{y:hi mF}(ad:BC P inR call o g d q h hs=.cG y)(ah:e2 y.cs):
  eb P inR call none o g d q h=y.res.res:=by
 unfold BC at ad
 cases aY:E_ o g d q h hs with
 |none=>rw[aY] at ad;exact Ui ad ah
 |some z=>
  rw[aY] at ad
  simp only at ad
  subst ad
  unfold E_ at aY
  split at aY
  · rename_i gq a b gn
    split at aY
    · rename_i dT ao
      split at aY
      · cases aY
        obtain⟨rfl,_⟩:=ah
        unfold eb cD
        simp[eH,gn,ao,mF.res]
      · cases aY
        obtain⟨rfl,_⟩:=ah
        unfold eb cD
        simp[eH,gn,ao,mF.res]
      · cases aY
    · cases aY
  · cases aY
theorem vW{gd:Option (J×Bool)}(hw:eH gd=some true)(o:Oper)(g:Operand->J)(d:List bC)(q:bG)(h:aa):eb P inR call gd o g d q h=eb P inR call none o g d q h:=by
 unfold eb
 rw[hw]
 rfl
theorem yw{gd:Option (J×Bool)}(hw:eH gd=some false)(o:Oper)(g:Operand->J)(d:List bC)(q:bG)(h:aa):eb P inR call gd o g d q h=.ok (.aD []) d q h:=by
 unfold eb
 simp only[hw]
theorem yx{gd:Option (J×Bool)}{o:Oper}{g:Operand->J}{d:List bC}{q:bG}{h:aa}{hs:List Hint}{y:hi mF}(ad:vT P inR call gd o g d q h hs=.cG y)(ah:e2 y.cs):
  eb P inR call gd o g d q h=y.res.res:=by
 unfold vT at ad
 split at ad
 · exact K4 ad ah
 · rename_i adh b
   split at ad
   · rename_i c gM
     split at ad
     · rename_i pe
       split at ad
       · rename_i s jV kh dL
         cases ad
         obtain⟨rfl,ow⟩:=ah
         rw[vW (by simp only[eH];rw[pe])]
         exact(K4 dL ow:)
       · cases ad
     · rename_i pe
       cases ad
       obtain⟨rfl,_⟩:=ah
       rw[yw (by simp only[eH];rw[pe])];rfl
   · cases ad
 · cases ad
   rw[yw rfl];rfl
 · cases ad
variable {need:Nat}
theorem BK{m:Nat}{env:List J}{r:aU}{Γ:Env}(hm:Mod r Γ){loc:List (Nat×Acc)}{o:Oper}(au:vU P need m env Γ loc o=true):∀x∈o.op.operands,d_ m env r (cP P need loc x)=k4 P need m env Γ loc x:=by
 intro x ad
 unfold vU at au
 rw[List.all_eq_true] at au
 have:=au x (by simpa using ad)
 obtain⟨v,aH⟩:=Option.isSome_iff_exists.1 this
 unfold k4
 rw[aH,tN hm aH];rfl
theorem K5{r:aU}{Γ:Env}(hm:Mod r Γ):∀(l:List Step) (env:List J) (d:List bC) (q:bG) (h:aa) (hs:List Hint) (y:hi mm),BD P need inR call Γ l env d q h hs=.cG y->e2 y.cs->
  j9 P need inR call r l env d q h=y.res
 |[],env,d,q,h,hs,y,ad,ah=>by cases ad;rfl
 |s::rest,env,d,q,h,hs,y,ad,ah=>by
  simp only[BD] at ad
  split at ad
  · cases ad
  · rename_i au
    split at ad
    · cases ad
    · rename_i gd hg
      have key:∀z,eb P inR call gd s.o (k4 P need s.m env Γ s.loc) d q h=z->j9 P need inR call r (s::rest) env d q h=match z with
        |.ok v bx bq an=>j9 P need inR call r rest (v::env) bx bq an
        |.bk v bx bq an=>.bk v bx bq an
        |.fail w=>.fail w:=λz a0=>by
       simp only[j9]
       rw[<-a0,<-tC (BK hm au)]
       unfold KV at hg
       cases EU:s.guard with
       |none=>rw[EU] at hg;cases hg;rfl
       |some p=>
        obtain⟨a,b⟩:=p
        rw[EU] at hg
        simp only at hg
        cases aH:nA s.m env Γ a with
        |none=>rw[aH] at hg;cases hg
        |some v=>rw[aH] at hg;cases hg;simp only[tN hm aH];rfl
      split at ad
      · rename_i v bx bq an jV gM gL
        split at ad
        · rename_i z yy kh rC
          cases ad
          obtain⟨c1,c2⟩:=e2.append ah
          have ab:=yx gL c1
          have h5:eb P inR call gd s.o (k4 P need s.m env Γ s.loc) d q h=.ok v bx bq an:=ab
          rw[key _ h5]
          exact(K5 hm rest (v::env) bx bq an gM _ rC c2:)
        · cases ad
      · rename_i v bx bq an jV gM gL
        cases ad
        have ab:=yx gL ah
        have h5:eb P inR call gd s.o (k4 P need s.m env Γ s.loc) d q h=.bk v bx bq an:=ab
        rw[key _ h5]
      · cases ad
theorem Fj{m:Nat}{env:List J}{gm:aU}{gD:Env}(hm:Mod gm gD):∀(l:List (Nat×Acc)) (r:aU) (Γ:Env),Mod r Γ->Mod (qg need m env gm l r) (tK need m env gD l Γ)
 |[],r,Γ,h=>h
 |(t,a)::l,r,Γ,h=>by
  have bp:=Fj (m:=m) (env:=env) hm l r Γ h
  simp only[qg,tK]
  cases Nat.testBit need t with
  |false=>exact bp
  |true=>
   simp only
   cases ao:nA m env gD a with
   |some v=>simp only;rw[tN hm ao];exact bp.put t v
   |none=>simp only;exact bp.del t _
theorem Fk:∀(l:List (Nat×Acc)) (r:aU) (Γ:Env),Mod r Γ->Mod (vm l r) (BE l Γ)
 |[],r,Γ,h=>h
 |(t,a)::l,r,Γ,h=>(Fk l r Γ h).del t _
mutual
theorem tP:∀v:J,v.sound=true->J.beq v v=true
 |.bool b,_=>by simp[J.beq]
 |.int k n,_=>by simp[J.beq,de]
 |.str s,_=>by simp[J.beq,nk]
 |.bc,_=>rfl
 |.ptr a i,_=>by simp[J.beq]
 |.az,_=>rfl
 |.slice a i n c,_=>by cases c<;>simp[J.beq,cj.beq]
 |.hz,_=>rfl
 |.map a,_=>by simp[J.beq]
 |.fi,_=>rfl
 |.fn f a b,h=>by
  simp only[J.sound,Bool.and_eq_true] at h
  simp only[J.beq,yz a h.1,yz b h.2,Bool.and_true]
  simp
 |.bR a,_=>by simp[J.beq]
 |.eO,_=>rfl
 |.iface t v,h=>by
  simp only[J.sound] at h
  simp only[J.beq,tP v h,Bool.and_true]
  simp
 |.agg l,h=>by
  simp only[J.sound] at h
  simp only[J.beq,yz l h]
 |.aD l,h=>by
  simp only[J.sound] at h
  simp only[J.beq,yz l h]
 |.bad,h=>by simp[J.sound] at h
theorem yz:∀l:List J,jI l=true->J.j_ l l=true
 |[],_=>rfl
 |a::l,h=>by
  simp only[jI,Bool.and_eq_true] at h
  simp only[J.j_,tP a h.1,yz l h.2,Bool.and_true]
end
theorem Fl{ops:Array Oper}{r:aU}{Γ:Env}(hm:Mod r Γ){n:Nat}{env:List J}{s:DStep}{gd:Option (J×Bool)}(h:yu P need ops n env Γ s=some gd):g0 P need ops r n env s=gd:=by
 unfold yu at h
 unfold g0
 split at h
 · rename_i ao;rw[ao];cases h;rfl
 · rename_i a b ao
   rw[ao]
   split at h
   · rename_i v aH
     cases h
     simp only[tN hm aH]
   · cases h
def Uj(P:Program)(need:Nat)(inR:Bool)(call:aO->List J->aa->ax)(ops:Array Oper)(r:aU)(cF:Nat)(s:DStep)(st b2:jW):Prop:=
 ∀rest,gw P need inR call ops r cF (s::rest) st.env st.d st.q st.h st.a9=gw P need inR call ops r cF rest b2.env b2.d b2.q b2.h b2.a9
theorem K6{ops:Array Oper}{r:aU}{Γ:Env}(hm:Mod r Γ){cF:Nat}{s:DStep}{st:jW}{hs:List Hint}{y:hi jW}(ad:BF P need inR call ops Γ cF s st hs=.cG y)(ah:e2 y.cs):Uj P need inR call ops r cF s st y.res:=by
 intro rest
 unfold BF at ad
 split at ad
 · cases ad
 · rename_i au
   have ao:=BK hm au
   split at ad
   · cases ad
   · rename_i gd hg
     have aq:=Fl hm hg
     split at ad
     · rename_i hk
       have a5:=ye (P:=P) (o:=s.o.op) (b:=cF+s.i) ao
       simp only[gw,hk,aq]
       rw[a5]
       unfold KZ at ad
       split at ad
       · split at ad
         · cases ad
           have iU:=KY ah.1
           simp only[eH,iU]
         · split at ad
           · rename_i v o iU
             cases ad
             simp only[eH,iU]
           · cases ad
       · split at ad
         · rename_i x c _ gi gM
           split at ad
           · rename_i Fm
             split at ad
             · rename_i v o iU
               cases ad
               obtain⟨rfl,_⟩:=ah
               simp only[eH,Fm,iU]
             · cases ad
           · rename_i Fm
             cases ad
             obtain⟨rfl,_⟩:=ah
             simp only[eH,Fm]
         · cases ad
       · cases ad
         simp only[eH]
       · cases ad
     · rename_i hk
       simp only[gw,hk,aq]
       rw[tC ao]
       split at ad
       · rename_i v bx bq an jV gM gL
         cases ad
         have ab:=yx gL ah
         have h5:eb P inR call gd s.o (k4 P need s.i st.env Γ s.loc) st.d st.q st.h=.ok v bx bq an:=ab
         rw[h5]
       · cases ad
       · cases ad
     · rename_i hk
       split at ad
       · cases ad
       · rename_i lr
         simp only[gw,hk,aq]
         rw[tC ao]
         split at ad
         · rename_i v bx bq an jV gM gL
           cases ad
           have ab:=yx gL ah
           have h5:eb P inR call gd s.o (k4 P need s.i st.env Γ s.loc) st.d st.q st.h=.ok v bx bq an:=ab
           rw[h5]
           cases cr:st.a9 with
           |nil=>rfl
           |cons a l=>
            obtain⟨e,m,aj⟩:=a
            rw[cr] at lr
            simp only[tL] at lr
            simp only[lr]
         · cases ad
         · cases ad
theorem K7{ops:Array Oper}{r:aU}{Γ:Env}(hm:Mod r Γ){cF:Nat}:∀(l:List DStep) (st:jW) (hs:List Hint) (y:hi jW),BG P need inR call ops Γ cF l st hs=.cG y->e2 y.cs->
  gw P need inR call ops r cF l st.env st.d st.q st.h st.a9=.ok y.res.env y.res.d y.res.q y.res.h y.res.a9
 |[],st,hs,y,ad,ah=>by cases ad;rfl
 |s::rest,st,hs,y,ad,ah=>by
  simp only[BG] at ad
  split at ad
  · rename_i st1 jV gM ab
    split at ad
    · rename_i dq yy kh ae
      cases ad
      obtain⟨c1,c2⟩:=e2.append ah
      rw[K6 hm ab c1 rest]
      exact(K7 hm rest st1 gM ⟨dq,yy,kh⟩ ae c2:)
    · cases ad
  · cases ad
theorem Uk{o:Oper}{g:Operand->J}{h:aa}{v:J}(ah:e2 (yv P o g h v)):∃v' an,cD P o g h=.val v' an/\J.beq v' v=true:=by
 unfold yv at ah
 split at ah
 · rename_i x a b aY
   obtain⟨ab,ae,_⟩:=ah
   refine⟨v,h,?_,tP v ab⟩
   unfold K0 at aY
   split at aY
   · rename_i c dp b' a8
     split at aY
     · rename_i x' BL
       cases aY
       cases x<;>simp only[cD,a8,BL]<;>rw[<-ae]<;>rfl
     · cases aY
   · cases aY
 split at ah
 · exact⟨v,h,tO ah.2.1,tP v ah.1⟩
 split at ah
 · exact⟨v,h,tO ah.2.1,tP v ah.1⟩
 · split at ah
   · rename_i v' an he
     obtain⟨ab,rfl,_⟩:=ah
     exact⟨v',an,he,tP v' ab⟩
   · exact ah.1.elim
theorem K8{ops:Array Oper}{r:aU}{Γ:Env}(hm:Mod r Γ){n:Nat}{env:List J}{s:DStep}{v:J}{h:aa}(ah:e2 (Fb P need ops Γ n env s v h)):lT P need ops r n env s v h=true:=by
 unfold Fb at ah
 unfold lT
 split at ah
 · rename_i gd au hg
   rw[Fl hm hg]
   have ao:=BK hm au
   have key:e2 (yv P s.o (k4 P need n env Γ s.loc) h v)->(match cD P s.o (λx=>d_ n env r (cP P need s.loc x)) h with
     |.val v' _=>J.beq v' v
     |_=>false)=true:=λaw=>by
    rw[yd s.o h ao]
    obtain⟨v',an,aE,aC⟩:=Uk aw
    rw[aE];exact aC
   split at ah
   · simp only[eH];exact key ah
   · rename_i x b
     simp only[eH]
     obtain⟨ah,_⟩:=ah
     unfold lookW at ah
     split at ah
     · rw[ah]
     · cases JA:(x==b) with
       |false=>rfl
       |true=>exact key ah
   · rfl
   · exact ah.1.elim
 · exact ah.1.elim
theorem BM{ops:Array Oper}{r:aU}{n:Nat}{env:List J}{s:DStep}{v:J}(en:Option Nat)(h:aa)(a9:nB):k0 P need ops r n env s v en h a9=
  ((match qE s en a9 with|true=>true|false=>lT P need ops r n env s v h)&&(match a9 with|[]=>true|(e,_,an)::rest=>k0 P need ops r n env s v (some e) an rest)):=by
 cases a9<;>(rw[k0.eq_def];rfl)
theorem Fo{ops:Array Oper}{r:aU}{Γ:Env}(hm:Mod r Γ){n:Nat}{env:List J}{s:DStep}{v:J}:∀(a9:nB) (en:Option Nat) (h:aa),e2 (vV P need ops Γ n env s v en h a9)->k0 P need ops r n env s v en h a9=true
 |[],en,h,ah=>by
  rw[BM]
  unfold vV at ah
  obtain⟨c1,_⟩:=e2.append ah
  cases ag:qE s en [] with
  |true=>rfl
  |false=>rw[ag] at c1;simp only[Bool.and_true];exact K8 hm c1
 |(e,m,an)::rest,en,h,ah=>by
  rw[BM]
  unfold vV at ah
  obtain⟨c1,c2⟩:=e2.append ah
  have bp:=Fo hm rest (some e) an c2
  cases ag:qE s en ((e,m,an)::rest) with
  |true=>simp only[Bool.true_and];exact bp
  |false=>
   rw[ag] at c1
   simp only
   rw[K8 hm c1,Bool.true_and];exact bp
theorem K9{ops:Array Oper}{r:aU}{Γ:Env}(hm:Mod r Γ){n:Nat}{env:List J}{h:aa}{a9:nB}:∀(l:List DStep),e2 (BI P need ops Γ n env h a9 l)->lk P need ops r n env none h a9 l=true
 |[],_=>rfl
 |s::rest,ah=>by
  simp only[BI] at ah
  obtain⟨c1,c2⟩:=e2.append ah
  simp only[lk]
  rw[K9 hm rest c2,Bool.and_true]
  cases ab:Nat.blt s.i n with
  |false=>rfl
  |true=>
   rw[ab] at c1
   cases ae:kindOf P s.o.op with
   |pure=>rw[ae] at c1;exact Fo hm a9 none h c1
   |alloc=>rfl
   |ey=>rfl
theorem Ul{ops:Array Oper}{r:aU}{Γ:Env}(hm:Mod r Γ){cF:Nat}{s:DStep}{rest:List DStep}{st:jW}{hs:List Hint}{y:hi (J×jW)}(ad:Fa P need inR call ops Γ s rest st hs=.cG y)(ah:e2 y.cs):
  gw P need inR call ops r cF (s::rest) st.env st.d st.q st.h st.a9=.bk y.res.1 y.res.2.env y.res.2.d y.res.2.q y.res.2.h y.res.2.a9:=by
 unfold Fa at ad
 split at ad
 · cases ad
 · rename_i au
   have ao:=BK hm au
   split at ad
   · cases ad
   · rename_i gd hg
     have aq:=Fl hm hg
     split at ad
     · rename_i hk
       split at ad
       · cases ad
       · rename_i lr
         simp only[gw,hk,aq]
         rw[tC ao]
         split at ad
         · rename_i v bx bq an jV gM gL
           split at ad
           · rename_i fI
             cases ad
             have ab:=yx gL ah
             have h5:eb P inR call gd s.o (k4 P need s.i st.env Γ s.loc) st.d st.q st.h=.bk v bx bq an:=ab
             rw[h5]
             cases cr:st.a9 with
             |nil=>simp only[fI]
             |cons a l=>
              obtain⟨e,m,aj⟩:=a
              rw[cr] at lr
              simp only[tL] at lr
              simp only[lr,fI]
           · cases ad
         · cases ad
     · cases ad
theorem K_{ops:Array Oper}{r:aU}{Γ:Env}(hm:Mod r Γ){cF:Nat}:∀(l:List DStep) (st:jW) (hs:List Hint) (y:hi (J×jW)),BH P need inR call ops Γ cF l st hs=.cG y->e2 y.cs->
  gw P need inR call ops r cF l st.env st.d st.q st.h st.a9=.bk y.res.1 y.res.2.env y.res.2.d y.res.2.q y.res.2.h y.res.2.a9
 |[],st,hs,y,ad,ah=>by cases ad
 |s::rest,st,hs,y,ad,ah=>by
  simp only[BH] at ad
  split at ad
  · rename_i gi ab
    cases ad
    exact Ul hm ab ah
  · split at ad
    · rename_i st1 jV gM ab
      split at ad
      · rename_i dq yy kh ae
        cases ad
        obtain⟨c1,c2⟩:=e2.append ah
        rw[K6 hm ab c1 rest]
        exact(K_ hm rest st1 gM ⟨dq,yy,kh⟩ ae c2:)
      · cases ad
    · cases ad
theorem La{ops:Array Oper}{r:aU}{Γ:Env}(hm:Mod r Γ){n:Nat}{env:List J}{last:Option Nat}{h:aa}{a9:nB}:∀(l:List DStep),e2 (BJ P need ops Γ n env last h a9 l)->lk P need ops r n env last h a9 l=true
 |[],_=>rfl
 |s::rest,ah=>by
  simp only[BJ] at ah
  obtain⟨c1,c2⟩:=e2.append ah
  simp only[lk]
  rw[La hm rest c2,Bool.and_true]
  cases ab:Nat.blt s.i n with
  |false=>rfl
  |true=>
   rw[ab] at c1
   cases ae:kindOf P s.o.op with
   |pure=>rw[ae] at c1;exact Fo hm a9 last h c1
   |alloc=>rfl
   |ey=>rfl
theorem Um{id:Nat}{ops:Array Oper}{rd:Option Nat}{st:ar}{hs:List Hint}{y:hi (bK×ar)}(ad:Fc P need rd.isSome call ops st hs=.cG y)(ah:e2 y.cs):c9 P need rd call (.region id ops true) st y.res.1 y.res.2:=by
 unfold Fc at ad
 split at ad
 · rename_i v env d q h e m h0 a9 jV gM aq
   cases ad
   obtain⟨c1,c2⟩:=e2.append ah
   intro r hm
   have ab:=K_ hm _ _ _ _ aq c1
   have ae:=La hm _ c2
   simp only at ab
   refine⟨_,?_,Fk _ _ _ hm⟩
   have h5:gw P need rd.isSome call ops r st.h.n (fk ops.toList 0 [] []) [] st.d st.q ⟨st.h.t,st.h.n+ops.size⟩ []=.bk v env d q h ((e,m,h0)::a9):=ab
   simp only[dD,sZ,h5,ae,qh]
 · cases ad
 · cases ad
theorem Un{id:Nat}{ops:Array Oper}{rd:Option Nat}{st:ar}{hs:List Hint}{y:hi (bK×ar)}(ad:Fe P need rd.isSome call ops st hs=.cG y)(ah:e2 y.cs):c9 P need rd call (.region id ops true) st y.res.1 y.res.2:=by
 unfold Fe at ad
 split at ad
 · rename_i env d q h a9 jV gM aq
   cases ad
   obtain⟨c1,c2⟩:=e2.append ah
   intro r hm
   have ab:=K7 hm _ _ _ _ aq c1
   have ae:=K9 hm _ c2
   simp only at ab
   refine⟨_,?_,Fj hm _ _ _ hm⟩
   have h5:gw P need rd.isSome call ops r st.h.n (fk ops.toList 0 [] []) [] st.d st.q ⟨st.h.t,st.h.n+ops.size⟩ []=.ok env d q h a9:=ab
   simp only[dD,sZ,h5,ae,qh]
 · exact Um ad ah
variable {rd:Option Nat}
theorem pE:∀(c:Code) (st:ar) (hs:List Hint) (y:hi (bK×ar)),lx P need rd call c st hs=.cG y->e2 y.cs->c9 P need rd call c st y.res.1 y.res.2
 |.skip,st,hs,y,ad,ah=>by cases ad;exactλr ai=>⟨r,rfl,ai⟩
 |.label _,st,hs,y,ad,ah=>by cases ad;exactλr ai=>⟨r,rfl,ai⟩
 |.exit id,st,hs,y,ad,ah=>by cases ad;exactλr ai=>⟨r,rfl,ai⟩
 |.ret,st,hs,y,ad,ah=>by cases ad;exactλr ai=>⟨r,rfl,ai⟩
 |.scope b,st,hs,y,ad,ah=>pE b st hs y ad ah
 |.region id ops draw,st,hs,y,ad,ah=>by
  simp only[lx] at ad
  cases draw with
  |true=>exact Un ad ah
  |false=>
   simp only at ad
   split at ad
   · rename_i x jV gM cr
     split at ad
     · rename_i ba Fp
       cases ad
       intro r ai
       have ab:=K5 ai _ _ _ _ _ _ _ cr ah
       simp only at ab
       simp only[dD,ab]
       cases x with
       |ok env d q h=>cases Fp;exact⟨_,rfl,Fj ai _ _ _ ai⟩
       |bk v d q h=>cases Fp;exact⟨_,rfl,Fk _ _ _ ai⟩
       |fail w=>cases Fp
     · cases ad
   · cases ad
 |.seq a b,st,hs,y,ad,ah=>by
  simp only[lx] at ad
  split at ad
  · rename_i st1 jV gM a5
    split at ad
    · rename_i bt yy kh ag
      cases ad
      obtain⟨c1,c2⟩:=e2.append ah
      intro r ai
      obtain⟨ba,ab,cE⟩:=pE a st hs _ a5 c1 r ai
      obtain⟨bt,ae,hB⟩:=pE b st1 gM _ ag c2 ba cE
      exact⟨bt,by simp only at ab ae;simp only[dD,ab,qi,ae],hB⟩
    · cases ad
  · rename_i dK
    intro r ai
    obtain⟨ba,ab,cE⟩:=pE a st hs y ad ah r ai
    refine⟨ba,?_,cE⟩
    simp only[dD,ab]
    refine tq (λcI=>?_)
    obtain⟨⟨aE,st1⟩,jV,gM⟩:=y
    simp only at cI
    subst cI
    exact dK _ _ _ ad
 |.cond c a b,st,hs,y,ad,ah=>by
  simp only[lx] at ad
  split at ad
  · rename_i x ao
    split at ad
    · split at ad
      · rename_i ba jV gM a5
        cases ad
        obtain⟨rfl,c1⟩:=ah
        intro r ai
        obtain⟨ba,ab,cE⟩:=pE a st _ _ a5 c1 r ai
        exact⟨ba,by simp only at ab;simp only[dD,tN ai ao,ab],cE⟩
      · cases ad
    · split at ad
      · rename_i ba jV gM a5
        cases ad
        obtain⟨rfl,c1⟩:=ah
        intro r ai
        obtain⟨ba,ab,cE⟩:=pE b st _ _ a5 c1 r ai
        exact⟨ba,by simp only at ab;simp only[dD,tN ai ao,ab],cE⟩
      · cases ad
    · cases ad
  · cases ad
 |.block id b,st,hs,y,ad,ah=>by
  simp only[lx] at ad
  split at ad
  · rename_i i st1 jV gM ag
    split at ad
    · rename_i af
      cases ad
      obtain rfl:=Nat.eq_of_beq_eq_true af
      intro r ai
      obtain⟨ba,ab,cE⟩:=pE b st hs _ ag ah r ai
      exact⟨ba,by simp only at ab;simp only[dD,ab,if_true],cE⟩
    · rename_i af
      cases ad
      intro r ai
      obtain⟨ba,ab,cE⟩:=pE b st hs _ ag ah r ai
      have dK:¬i=id:=by intro cI;subst cI;simp at af
      exact⟨ba,by simp only at ab;simp only[dD,ab,if_neg dK],cE⟩
  · rename_i dK
    intro r ai
    obtain⟨ba,ab,cE⟩:=pE b st hs y ad ah r ai
    refine⟨ba,?_,cE⟩
    obtain⟨⟨aE,st1⟩,jV,gM⟩:=y
    simp only at ab
    simp only[dD,ab]
    cases aE<;>first|rfl|exact absurd ad (dK _ _ _ _)
 |.loop b,st,hs,y,ad,ah=>by
  simp only[lx] at ad
  split at ad
  · cases ad;exact ah.1
  · cases ad
 |.rangeFunc f ps as cb,st,hs,y,ad,ah=>by
  simp only[lx] at ad
  split at ad
  · cases ad;exact ah.1
  · cases ad
 |.goto _,st,hs,y,ad,ah=>by cases ad
 |.refuse _,st,hs,y,ad,ah=>by cases ad
end
end ay
namespace ay
open Go
def sub:Code->List Nat->Code
 |c,[]=>c
 |.seq a _,0::l=>sub a l
 |.seq _ b,_::l=>sub b l
 |.cond _ a _,0::l=>sub a l
 |.cond _ _ b,_::l=>sub b l
 |.block _ b,_::l=>sub b l
 |.loop b,_::l=>sub b l
 |.scope b,_::l=>sub b l
 |.rangeFunc _ _ a _,0::l=>sub a l
 |.rangeFunc _ _ _ b,_::l=>sub b l
 |c,_::_=>c
def fv(fn:Func):Code:=fn.body.getD .skip
def cZ:Env->Env->Prop
 |[],_=>True
 |(t,v)::l,Γ=>fy t Γ=some v/\cZ l Γ
theorem cZ.ok:∀{hG Γ:Env},cZ hG Γ->∀t v,fy t hG=some v->fy t Γ=some v
 |[],Γ,_,t,v,h=>by simp[fy] at h
 |(u,x)::l,Γ,⟨ab,ae⟩,t,v,h=>by
  simp only[fy] at h
  rcases tM t u with⟨e,ag⟩|⟨e,ag⟩
  · rw[ag] at h;cases h;rw[e];exact ab
  · rw[ag] at h;exact cZ.ok ae t v h
theorem Mod.sub{r:aU}{Γ hG:Env}(h:Mod r Γ)(hs:cZ hG Γ):Mod r hG:=λt v a2=>h t v (hs.ok t v a2)
section
variable {P:Program} {need:Nat} {rd:Option Nat} {call:aO->List J->aa->ax}
def Fq(bM:List Nat):k3 (hi (bK×ar))->Option (hi (bK×ar))
 |.cG ⟨(e,⟨Γ,d,q,h⟩),cs,[]⟩=>some ⟨(e,⟨mD Γ bM,d,q,h⟩),cs,[]⟩
 |_=>none
theorem Uo{c:Code}{st:ar}{hs:List Hint}{e:bK}{b2:ar}{cs:List Prop}(bM:List Nat)(ad:Fq bM (lx P need rd call c st hs)=some ⟨(e,b2),cs,[]⟩)(ah:e2 cs):c9 P need rd call c st e b2:=by
 unfold Fq at ad
 split at ad
 · rename_i aE gV d1 aR ab jV Up
   cases ad
   intro r ai
   obtain⟨ba,ab,cE⟩:=pE c st hs _ Up ah r ai
   exact⟨ba,ab,cE.mD bM⟩
 · cases ad
theorem c9.pre{c:Code}{st st1 b2:ar}{e:bK}(h:c9 P need rd call c st e b2)(hs:cZ st.Γ st1.Γ)(aq:st1.d=st.d)(a1:st1.q=st.q)(aj:st1.h=st.h):c9 P need rd call c st1 e b2:=by
 intro r ai
 obtain⟨ba,ab,cE⟩:=h r (ai.sub hs)
 exact⟨ba,by rw[aq,a1,aj];exact ab,cE⟩
theorem c9.post{c:Code}{st b2:ar}{hG:Env}{e:bK}(h:c9 P need rd call c st e b2)(hs:cZ hG b2.Γ):c9 P need rd call c st e {b2 with Γ:=hG}:=by
 intro r ai
 obtain⟨ba,ab,cE⟩:=h r ai
 exact⟨ba,ab,cE.sub hs⟩
def ox(P:Program)(need:Nat)(rd:Option Nat)(call:aO->List J->aa->ax)(b:Code)(n:Nat)(st:ar)(e:bK)(b2:ar):Prop:=
 ∀r,Mod r st.Γ->∃r',o_ (dD P need rd call b) n r st.d st.q st.h=.ok e r' b2.d b2.q b2.h/\Mod r' b2.Γ
theorem ox.step{b:Code}{n:Nat}{st st1 b2:ar}{e:bK}(h:c9 P need rd call b st .nrm st1)(ae:ox P need rd call b n st1 e b2):ox P need rd call b (n+1) st e b2:=by
 intro r ai
 obtain⟨ba,aE,cE⟩:=h r ai
 obtain⟨bt,aC,hB⟩:=ae ba cE
 exact⟨bt,by simp only[o_,aE,qi,aC],hB⟩
theorem ox.exit{b:Code}{n:Nat}{st b2:ar}{e:bK}(h:c9 P need rd call b st e b2)(he:e≠ .nrm):ox P need rd call b (n+1) st e b2:=by
 intro r ai
 obtain⟨ba,aE,cE⟩:=h r ai
 exact⟨ba,by simp only[o_,aE];exact tq he,cE⟩
theorem Fs{f:aU->List bC->bG->aa->jz}:∀{n m:Nat},n<=m->∀{r d q h e r' bx bq an},o_ f n r d q h=.ok e r' bx bq an->o_ f m r d q h=.ok e r' bx bq an
 |0,_,_,_,_,_,_,_,_,_,_,_,h=>by cases h
 |n+1,0,hle,_,_,_,_,_,_,_,_,_,_=>by omega
 |n+1,m+1,hle,r,d,q,h,e,r',bx,bq,an,ad=>by
  simp only[o_] at ad⊢
  cases hf:f r d q h with
  |fail w=>rw[hf] at ad;cases ad
  |ok aE ba d1 aR ab=>
   rw[hf] at ad
   cases aE<;>simp only[qi] at ad⊢ <;>first|exact Fs (by omega) ad|exact ad
theorem ox.run{b:Code}{n:Nat}{st b2:ar}{e:bK}(h:ox P need rd call b n st e b2)(aJ:n<=100000):c9 P need rd call (.loop b) st e b2:=by
 intro r ai
 obtain⟨ba,aE,cE⟩:=h r ai
 exact⟨ba,by simp only[dD];exact Fs aJ aE,cE⟩
def mG:Nat->List J->Env
 |_,[]=>[]
 |i,v::l=>(i,v)::mG (i+1) l
theorem Lb(t:Nat)(v:J):∀(l:List J) (i:Nat),fy t (mG i l)=some v->i<=t/\t<i+l.length/\l[t-i]? =some v
 |[],i,h=>by simp[mG,fy] at h
 |x::l,i,h=>by
  simp only[mG,fy] at h
  rcases tM t i with⟨e,ag⟩|⟨e,ag⟩
  · rw[ag] at h;cases h;subst e;simp
  · rw[ag] at h
    obtain⟨ab,ae,av⟩:=Lb t v l (i+1) h
    refine⟨by omega,by simp;omega,?_⟩
    have:t-i=(t-(i+1))+1:=by omega
    rw[this];simpa using av
theorem tQ(args:List J):Mod (nd 0 args .leaf) (mG 0 args):=by
 intro t v h
 obtain⟨ab,ae,av⟩:=Lb t v args 0 h
 rw[Ex,if_pos ⟨ab,ae⟩,av];rfl
def oy(P:Program)(need:Nat)(Γ:Env)(h:aa)(x:ResultVar):Option J:=
 match x with
 |.tmp t=>match Nat.testBit need t with
  |true=>fy t Γ
  |false=>none
 |.cell t ty=>match Nat.testBit need t with
  |true=>match fy t Γ with
   |none=>none
   |some p=>match p,lf P ty,dm P ty with
    |.ptr b off,some true,some n=>(match loadCells h b off n with|some cs=>some (.agg cs)|none=>none)
    |.ptr b off,some false,_=>aA h b off
    |_,_,_=>none
  |false=>none
theorem Uq{Γ:Env}{r:aU}(hm:Mod r Γ){h:aa}{x:ResultVar}{v:J}(ad:oy P need Γ h x=some v):rp P need r h x=some v:=by
 cases x with
 |tmp t=>
  simp only[oy,rp] at ad⊢
  split at ad
  · rename_i ag
    rw[ag];simp only[hm t v ad]
  · cases ad
 |cell t ty=>
  simp only[oy,rp] at ad⊢
  split at ad
  · rename_i ag
    rw[ag]
    simp only
    cases aw:fy t Γ with
    |none=>rw[aw] at ad;simp at ad
    |some p=>rw[aw] at ad;rw[hm t p aw];exact ad
  · cases ad
def k5(P:Program)(need:Nat)(fn:Func)(Γ:Env)(h:aa):Option J:=
 match mn (oy P need Γ h) fn.results.toList with
 |some [v]=>some v
 |some vs=>some (.aD vs)
 |none=>none
theorem Lc{Γ:Env}{r:aU}(hm:Mod r Γ){h:aa}:∀(l:List ResultVar) (vs:List J),mn (oy P need Γ h) l=some vs->mn (rp P need r h) l=some vs
 |[],vs,ad=>ad
 |x::l,vs,ad=>by
  simp only[mn] at ad⊢
  cases ab:oy P need Γ h x with
  |none=>rw[ab] at ad;simp at ad
  |some v=>
   rw[ab] at ad
   cases ae:mn (oy P need Γ h) l with
   |none=>rw[ae] at ad;simp at ad
   |some ws=>
    rw[ae] at ad
    rw[Uq hm ab,Lc hm l ws ae];exact ad
theorem tR{Γ:Env}{r:aU}(hm:Mod r Γ){h:aa}{fn:Func}{v:J}(ad:k5 P need fn Γ h=some v):pa P need fn r h=some v:=by
 unfold k5 at ad
 unfold pa
 cases a5:mn (oy P need Γ h) fn.results.toList with
 |none=>rw[a5] at ad;cases ad
 |some vs=>
  rw[a5] at ad
  rw[Lc hm _ _ a5];exact ad
variable {intr:Nat->List J->aa->Option (J×aa)}
theorem Ur{f:Nat}{fn:Func}{c:Code}{n:Nat}{args:List J}{h:aa}(hf:P.funcs[f]? =some fn)(ag:fn.body=some c)(aJ:dh fn=need)(af:intr f args h=none)(hle:Nat.ble args.length fn.ntmps=true)
  {e:bK}{Γ:Env}{q:bG}{an:aa}(eL:c9 P need none (e_ P intr n) c ⟨mG 0 args,[],.none,h⟩ e ⟨Γ,[],q,an⟩)(he:e=.ret\/e=.nrm){v:J}(hD:k5 P need fn Γ an=some v):
  e_ P intr (n+1) (.fn f) args h=.ret v an:=by
 subst aJ
 obtain⟨ba,ab,cE⟩:=eL _ (tQ args)
 have ai:=tR cE hD
 simp only[e_,af,qk,hf,ag,kC,hle,ab]
 rcases he with rfl|rfl<;>simp only[kd,jA,ai]
theorem Us{f:Nat}{fn:Func}{c:Code}{n:Nat}{args:List J}{h:aa}(hf:P.funcs[f]? =some fn)(ag:fn.body=some c)(aJ:dh fn=need)(af:intr f args h=none)(hle:Nat.ble args.length fn.ntmps=true)
  {v:J}{Γ:Env}{q:bG}{an:aa}(eL:c9 P need none (e_ P intr n) c ⟨mG 0 args,[],.none,h⟩ (.bk v) ⟨Γ,[],q,an⟩):
  e_ P intr (n+1) (.fn f) args h=.bk v an:=by
 subst aJ
 obtain⟨ba,ab,cE⟩:=eL _ (tQ args)
 simp only[e_,af,qk,hf,ag,kC,hle,ab,kd,jA]
abbrev aN(P:Program)(fn:Func)(rd:Option Nat)(call:aO->List J->aa->ax)(path:List Nat)(st:ar)(e:bK)(b2:ar):Prop:=c9 P (dh fn) rd call (sub (fv fn) path) st e b2
abbrev Ut(P:Program)(fn:Func)(rd:Option Nat)(call:aO->List J->aa->ax)(path:List Nat)(st:ar)(hs:List Hint):k3 (hi (bK×ar)):=lx P (dh fn) rd call (sub (fv fn) path) st hs
theorem bI{fn:Func}{path:List Nat}{st:ar}{hs:List Hint}{e:bK}{b2:ar}{cs:List Prop}(bM:List Nat)(ad:Fq bM (Ut P fn rd call path st hs)=some ⟨(e,b2),cs,[]⟩)(ah:e2 cs):aN P fn rd call path st e b2:=Uo bM ad ah
end
end ay
namespace ay
open Go
theorem Ld:∀(c:Code) (x:Nat) (l:List Nat),sub c (x::l)=sub (sub c [x]) l
 |.seq a b,0,l=>by simp[sub]
 |.seq a b,_+1,l=>by simp[sub]
 |.cond _ a b,0,l=>by simp[sub]
 |.cond _ a b,_+1,l=>by simp[sub]
 |.rangeFunc _ _ a b,0,l=>by simp[sub]
 |.rangeFunc _ _ a b,_+1,l=>by simp[sub]
 |.block _ b,x,l=>by simp[sub]
 |.loop b,x,l=>by simp[sub]
 |.scope b,x,l=>by simp[sub]
 |.skip,x,l=>by cases l<;>simp[sub]
 |.region _ _ _,x,l=>by cases l<;>simp[sub]
 |.exit _,x,l=>by cases l<;>simp[sub]
 |.ret,x,l=>by cases l<;>simp[sub]
 |.label _,x,l=>by cases l<;>simp[sub]
 |.goto _,x,l=>by cases l<;>simp[sub]
 |.refuse _,x,l=>by cases l<;>simp[sub]
theorem kL(c:Code):∀(p l:List Nat),sub c (p++l)=sub (sub c p) l
 |[],l=>by simp[sub]
 |x::p,l=>by rw[List.cons_append,Ld,kL (sub c [x]) p l,<-Ld]
def yA:Code->Bool
 |.seq _ _=>true
 |_=>false
def yB(id:Nat):Code->Bool
 |.block i _=>Nat.beq i id
 |_=>false
def BN:Code->Bool
 |.loop _=>true
 |_=>false
theorem Ft{c:Code}(h:yA c=true):c=.seq (sub c [0]) (sub c [1]):=by
 cases c<;>simp[yA,sub] at h⊢
theorem Fu{c:Code}{id:Nat}(h:yB id c=true):c=.block id (sub c [0]):=by
 cases c<;>simp only[yB] at h<;>(try (cases h;done))
 obtain rfl:=Nat.eq_of_beq_eq_true h
 simp[sub]
theorem Uu{c:Code}(h:BN c=true):c=.loop (sub c [0]):=by
 cases c<;>simp[BN,sub] at h⊢
section
variable {P:Program} {rd:Option Nat} {call:aO->List J->aa->ax} {fn:Func}
theorem c9.seq{need:Nat}{a b:Code}{st st1 g1:ar}{e:bK}(ab:c9 P need rd call a st .nrm st1)(ae:c9 P need rd call b st1 e g1):c9 P need rd call (.seq a b) st e g1:=by
 intro r ai
 obtain⟨ba,aE,cE⟩:=ab r ai
 obtain⟨bt,aC,hB⟩:=ae ba cE
 exact⟨bt,by simp only[dD,aE,qi,aC],hB⟩
theorem c9.iV{need:Nat}{a b:Code}{st st1:ar}{e:bK}(ab:c9 P need rd call a st e st1)(he:e≠ .nrm):c9 P need rd call (.seq a b) st e st1:=by
 intro r ai
 obtain⟨ba,aE,cE⟩:=ab r ai
 exact⟨ba,by simp only[dD,aE];exact tq he,cE⟩
theorem c9.block{need:Nat}{id:Nat}{b:Code}{st st1:ar}(ab:c9 P need rd call b st (.exit id) st1):c9 P need rd call (.block id b) st .nrm st1:=by
 intro r ai
 obtain⟨ba,aE,cE⟩:=ab r ai
 exact⟨ba,by simp only[dD,aE,if_true],cE⟩
theorem c9.tS{need:Nat}{id:Nat}{b:Code}{st st1:ar}{e:bK}(ab:c9 P need rd call b st e st1)(he:e≠ .exit id):c9 P need rd call (.block id b) st e st1:=by
 intro r ai
 obtain⟨ba,aE,cE⟩:=ab r ai
 refine⟨ba,?_,cE⟩
 simp only[dD,aE]
 cases e<;>first|rfl|(rename_i i;exact if_neg λh=>he (by rw[h]))
theorem aN.seq{p:List Nat}{st st1 g1:ar}{e:bK}(hs:yA (sub (fv fn) p)=true)(ab:aN P fn rd call (p++[0]) st .nrm st1)(ae:aN P fn rd call (p++[1]) st1 e g1):aN P fn rd call p st e g1:=by
 unfold aN at*
 rw[Ft hs]
 rw[kL] at ab ae
 exact ab.seq ae
theorem aN.iV{p:List Nat}{st st1:ar}{e:bK}(hs:yA (sub (fv fn) p)=true)(ab:aN P fn rd call (p++[0]) st e st1)(he:e≠ .nrm):aN P fn rd call p st e st1:=by
 unfold aN at*
 rw[Ft hs]
 rw[kL] at ab
 exact ab.iV he
theorem aN.block{p:List Nat}{id:Nat}{st st1:ar}(hs:yB id (sub (fv fn) p)=true)(ab:aN P fn rd call (p++[0]) st (.exit id) st1):aN P fn rd call p st .nrm st1:=by
 unfold aN at*
 rw[Fu hs]
 rw[kL] at ab
 exact ab.block
theorem aN.tS{p:List Nat}{id:Nat}{st st1:ar}{e:bK}(hs:yB id (sub (fv fn) p)=true)(ab:aN P fn rd call (p++[0]) st e st1)(he:e≠ .exit id):aN P fn rd call p st e st1:=by
 unfold aN at*
 rw[Fu hs]
 rw[kL] at ab
 exact ab.tS he
def fT(P:Program)(fn:Func)(rd:Option Nat)(call:aO->List J->aa->ax)(p:List Nat)(n:Nat)(st:ar)(e:bK)(b2:ar):Prop:=ox P (dh fn) rd call (sub (fv fn) (p++[0])) n st e b2
theorem fT.step{p:List Nat}{n:Nat}{st st1 b2:ar}{e:bK}(h:aN P fn rd call (p++[0]) st .nrm st1)(ae:fT P fn rd call p n st1 e b2):fT P fn rd call p (n+1) st e b2:=ox.step h ae
theorem fT.exit{p:List Nat}{n:Nat}{st b2:ar}{e:bK}(h:aN P fn rd call (p++[0]) st e b2)(he:e≠ .nrm):fT P fn rd call p (n+1) st e b2:=ox.exit h he
theorem fT.run{p:List Nat}{n:Nat}{st b2:ar}{e:bK}(hs:BN (sub (fv fn) p)=true)(h:fT P fn rd call p n st e b2)(aJ:n<=100000):aN P fn rd call p st e b2:=by
 unfold aN
 rw[Uu hs]
 unfold fT at h
 rw[kL] at h
 exact ox.run h aJ
theorem eg{intr:Nat->List J->aa->Option (J×aa)}{f:Nat}{n:Nat}{args:List J}{h:aa}(hf:P.funcs[f]? =some fn)(ag:fn.body.isSome=true)(af:intr f args h=none)(hle:Nat.ble args.length fn.ntmps=true)
  {e:bK}{Γ:Env}{q:bG}{an:aa}(eL:aN P fn none (e_ P intr n) [] ⟨mG 0 args,[],.none,h⟩ e ⟨Γ,[],q,an⟩)(he:e=.ret\/e=.nrm){v:J}(hD:k5 P (dh fn) fn Γ an=some v):
  e_ P intr (n+1) (.fn f) args h=.ret v an:=by
 obtain⟨c,ah⟩:=Option.isSome_iff_exists.1 ag
 have qF:fv fn=c:=by simp[fv,ah]
 unfold aN at eL
 rw[qF] at eL
 simp only[sub] at eL
 exact Ur hf ah rfl af hle eL he hD
theorem Uv{intr:Nat->List J->aa->Option (J×aa)}{f:Nat}{n:Nat}{args:List J}{h:aa}(hf:P.funcs[f]? =some fn)(ag:fn.body.isSome=true)(af:intr f args h=none)(hle:Nat.ble args.length fn.ntmps=true)
  {v:J}{Γ:Env}{q:bG}{an:aa}(eL:aN P fn none (e_ P intr n) [] ⟨mG 0 args,[],.none,h⟩ (.bk v) ⟨Γ,[],q,an⟩):e_ P intr (n+1) (.fn f) args h=.bk v an:=by
 obtain⟨c,ah⟩:=Option.isSome_iff_exists.1 ag
 have qF:fv fn=c:=by simp[fv,ah]
 unfold aN at eL
 rw[qF] at eL
 simp only[sub] at eL
 exact Us hf ah rfl af hle eL
theorem yC{i m:Nat}(af:i<m)(hm:m<=1000000000000):arith BinOp.add IntKind.i64 (Int.ofNat i) (Int.ofNat 1)=some (J.int IntKind.i64 (Int.ofNat (i+1))):=by
 have h:=rF (i+1) (by omega)
 have e:Int.ofNat i+Int.ofNat 1=((i+1:Nat):Int):=rfl
 simp only[arith,e,h];rfl
theorem kj{a b:Nat}(h:a<b):dZ (Int.ofNat a) (Int.ofNat b)=true:=by simp[dZ];omega
theorem mH{a b:Nat}(h:¬a<b):dZ (Int.ofNat a) (Int.ofNat b)=false:=by simp[dZ];omega
theorem Uw{s:List UInt8}{i:Nat}(h:i<s.length):mE i s=some (.int .u8 (Int.ofNat (s[i]).toNat)):=by
 unfold mE
 rw[qn,List.getElem?_eq_getElem h]
end
end ay
namespace ay
open Go
structure Ext(B:Nat)(h an:aa):Prop where
 n:h.n<=an.n
 get:∀b,b<B->an.get b=h.get b
theorem Ext.refl(B:Nat)(h:aa):Ext B h h:=⟨Nat.le_refl _,λ_ _=>rfl⟩
theorem Ext.trans{B hT:Nat}{h ab ae:aa}(bN:B<=hT)(e:Ext B h ab)(cI:Ext hT ab ae):Ext B h ae:=⟨Nat.le_trans e.n cI.n,λb ag=>(cI.get b (Nat.lt_of_lt_of_le ag bN)).trans (e.get b ag)⟩
theorem Ext.push{B:Nat}{h:aa}(bN:B<=h.n)(o:b3):Ext B h (h.push o):=⟨by simp,λb ag=>by rw[aa.eD,if_neg (by omega)]⟩
theorem Ext.set{B:Nat}{h:aa}{b:Nat}(ag:B<=b)(o:Option b3):Ext B h (h.set b o):=⟨by simp,λc ah=>by rw[aa.bH,if_neg (by omega)]⟩
theorem Ext.room(B:Nat)(h:aa)(k:Nat):Ext B h (h.room k):=⟨by simp,λ_ _=>rfl⟩
theorem BO:∀(l m:List J),takeN l.length (l++m)=some l
 |[],m=>rfl
 |a::l,m=>by simp[takeN,BO l m]
theorem BP{h:aa}{b e aW af:Nat}{k:eZ}{xs rest:List J}(ao:h.get b=some (.cells (xs++rest) e k aW af)):loadCells h b 0 xs.length=some xs:=by
 simp[loadCells,ao,iO,BO]
theorem Le:∀(l m:List J) (x y:J) (r:List J),x.bF=true->eP l.length [x] (l++y::r)=some (l++x::r)
 |[],m,x,y,r,ad=>by
  simp only[List.length_nil,List.nil_append]
  cases r with
  |nil=>simp[eP,ad]
  |cons z r=>simp[eP,ad]
 |a::l,m,x,y,r,ad=>by
  have bp:=Le l m x y r ad
  simp only[List.length_cons,List.cons_append,eP,bp]
section
variable {P:Program}
theorem yD{h:aa}{e bytes size need:Nat}{z:J}{cs:List J}{fz:Nat}(ab:lR need bytes=true)(ae:Nat.beq z.cells.length size=true)(av:cs.all J.bF=true):kY h e bytes size need z cs fz=some (.slice h.n 0 need (.aM size),h.push (.cells cs e .aM 0 fz)):=by
 unfold kY
 rw[ab,ae,av];rfl
theorem yE{h:aa}{t:TypeId}{s:List UInt8}{af:Nat}{ew:IntKind}(hu:P.underlying t=some .string)(ae:af<=s.length):
  dR P h t (.str s) none (some (.int ew (Int.ofNat af))) none=some (.str (s.take af)):=by
 have bh:Nat.ble s.length s.length=true:=by simp
 have bf:Nat.ble af s.length=true:=by simpa using ae
 have dM:Nat.ble 0 af=true:=by simp
 simp only[dR,hu,bounds,jx,fF,bh,bf,dM,ni,List.drop_zero,Nat.sub_zero]
theorem Ux{h:aa}{t:TypeId}{s:List UInt8}{aW:Nat}{k:IntKind}(hu:P.underlying t=some .string)(ae:aW<=s.length):
  dR P h t (.str s) (some (.int k (Int.ofNat aW))) none none=some (.str (s.drop aW)):=by
 have bh:Nat.ble s.length s.length=true:=by simp
 have bf:Nat.ble aW s.length=true:=by simpa using ae
 simp only[dR,hu,bounds,jx,fF,bh,bf,ni]
 rw[List.take_of_length_le (by simp)]
theorem yF{x y:List UInt8}(h:x.length+y.length<=1000000000000):o5 .add x y=some (.str (x++y)):=by
 have:¬(((x.length+y.length:Nat):Int)>IntKind.i64.max):=by
  have e:IntKind.i64.max=9223372036854775807:=rfl
  rw[e];omega
 simp only[o5,if_neg this]
end
end ay
namespace ay
open Go
variable {P:Program} {call:aO->List J->aa->ax}
def Lf(l:Nat)(e:bK)(need:Nat)(r:aU)(ps:List Nat)(as cb:Code)(et:Nat)(h:aa):ax:=match e with
 |.nrm=>.ret (.bool true) (h.set l (some (.loop .ready none need r ps as cb et)))
 |.ret=>.ret (.bool false) (h.set l (some (.loop .done (some .ret) need r ps as cb et)))
 |.exit id=>.ret (.bool false) (h.set l (some (.loop .done (some (.exit id)) need r ps as cb et)))
 |.bk v=>.bk v h
 |.goto _=>.fail "goto in a round"
theorem Lg{l need t et:Nat}{Γ gV hG:Env}{as cb:Code}{v:J}{h ae:aa}{q aT:bG}{e:bK}{r:aU}
  (ao:h.get l=some (.loop .ready none need r [t] as cb et))(hm:Mod r Γ)
  (a5:c9 P need (some l) call as ⟨put t v Γ,[],.none,h⟩ .nrm ⟨gV,[],q,h⟩)
  (ag:c9 P need (some l) call cb ⟨gV,[],.none,h.set l (some (.loop .busy none need r [t] as cb et))⟩ e ⟨hG,[],aT,ae⟩)
  (au:ae.get l=some (.loop .busy none need r [t] as cb et)):
  n4 P call l [v] h=Lf l e need r [t] as cb et ae:=by
 obtain⟨ba,aE,cE⟩:=a5 _ (hm.put t v)
 obtain⟨bt,aC,hB⟩:=ag _ cE
 simp only at aE aC
 simp only[n4,ao,s3,aE,AD,aC]
 simp only[vp,au]
 cases e<;>rfl
theorem l8{h:aa}{b t:Nat}{x:J}(ao:h.get b=some (.cells [x] t .own 0 0)):aA h b 0=some x:=by
 simp only[aA,ao];rfl
theorem BQ{h:aa}{b t:Nat}{x y:J}(a6:y.bF=true)(ao:h.get b=some (.cells [x] t .own 0 0)):ay.storeCells h b 0 [y]=some (h.set b (some (.cells [y] t .own 0 0))):=by
 have hw:jv .own 0 0 0 [y].length=true:=rfl
 simp only[ay.storeCells,ao,hw,eP,a6]
end ay
namespace ay
open Go
def W(P:Program)(need:Nat)(rd:Option Nat)(call:aO->List J->aa->ax)(c:Code)(Q:bK->aU->List bC->bG->aa->Prop)(r:aU)(d:List bC)(q:bG)(h:aa):Prop:=
 ∃e r' bx bq an,dD P need rd call c r d q h=.ok e r' bx bq an/\Q e r' bx bq an
section
variable {P:Program} {need:Nat} {rd:Option Nat} {call:aO->List J->aa->ax} {fn:Func}
theorem W.of{c:Code}{Q:bK->aU->List bC->bG->aa->Prop}{r:aU}{st b2:ar}{e:bK}(ai:c9 P need rd call c st e b2)(hm:Mod r st.Γ)(k:∀r',Mod r' b2.Γ->Q e r' b2.d b2.q b2.h):W P need rd call c Q r st.d st.q st.h:=by
 obtain⟨r',ab,ae⟩:=ai r hm
 exact⟨e,r',_,_,_,ab,k r' ae⟩
theorem W.seq{a b:Code}{Q:bK->aU->List bC->bG->aa->Prop}{r:aU}{d:List bC}{q:bG}{h:aa}
  (hw:W P need rd call a (λe r d q h=>(e=.nrm/\W P need rd call b Q r d q h)\/(e≠ .nrm/\Q e r d q h)) r d q h):W P need rd call (.seq a b) Q r d q h:=by
 obtain⟨e,ba,d1,aR,ab,ae,av⟩:=hw
 rcases av with⟨rfl,aC,bt,d2,aT,aK,bU,cB⟩|⟨dK,a1⟩
 · exact⟨aC,bt,d2,aT,aK,by simp only[dD,ae,qi,bU],cB⟩
 · exact⟨e,ba,d1,aR,ab,by simp only[dD,ae];exact tq dK,a1⟩
theorem W.block{id:Nat}{b:Code}{Q:bK->aU->List bC->bG->aa->Prop}{r:aU}{d:List bC}{q:bG}{h:aa}
  (hw:W P need rd call b (λe r d q h=>(e=.exit id/\Q .nrm r d q h)\/(e≠ .exit id/\Q e r d q h)) r d q h):W P need rd call (.block id b) Q r d q h:=by
 obtain⟨e,ba,d1,aR,ab,ae,av⟩:=hw
 rcases av with⟨rfl,a1⟩|⟨dK,a1⟩
 · exact⟨.nrm,ba,d1,aR,ab,by simp only[dD,ae,if_true],a1⟩
 · refine⟨e,ba,d1,aR,ab,?_,a1⟩
   simp only[dD,ae]
   cases e<;>first|rfl|(rename_i i;exact if_neg λh=>dK (by rw[h]))
abbrev WF(P:Program)(fn:Func)(rd:Option Nat)(call:aO->List J->aa->ax)(path:List Nat):=W P (dh fn) rd call (sub (fv fn) path)
theorem WF.seq{p:List Nat}{Q:bK->aU->List bC->bG->aa->Prop}{r:aU}{d:List bC}{q:bG}{h:aa}(hs:yA (sub (fv fn) p)=true)
  (hw:WF P fn rd call (p++[0]) (λe r d q h=>(e=.nrm/\WF P fn rd call (p++[1]) Q r d q h)\/(e≠ .nrm/\Q e r d q h)) r d q h):WF P fn rd call p Q r d q h:=by
 unfold WF at*
 rw[Ft hs]
 rw[kL,kL] at hw
 exact hw.seq
theorem WF.block{p:List Nat}{id:Nat}{Q:bK->aU->List bC->bG->aa->Prop}{r:aU}{d:List bC}{q:bG}{h:aa}(hs:yB id (sub (fv fn) p)=true)
  (hw:WF P fn rd call (p++[0]) (λe r d q h=>(e=.exit id/\Q .nrm r d q h)\/(e≠ .exit id/\Q e r d q h)) r d q h):WF P fn rd call p Q r d q h:=by
 unfold WF at*
 rw[Fu hs]
 rw[kL] at hw
 exact hw.block
def Fv(f:Operand)(ps:List Nat):Code->Bool
 |.rangeFunc (.tmp g) tT _ _=>(match f with|.tmp t=>Nat.beq g t|_=>false)&&tT.toList==ps
 |_=>false
theorem Uy{c:Code}{t:Nat}{ps:List Nat}(h:Fv (.tmp t) ps c=true):∃tT:Array Nat,tT.toList=ps/\c=.rangeFunc (.tmp t) tT (sub c [0]) (sub c [1]):=by
 unfold Fv at h
 split at h
 · rename_i g tT a b
   simp only[Bool.and_eq_true] at h
   obtain⟨ab,ae⟩:=h
   obtain rfl:=Nat.eq_of_beq_eq_true ab
   exact⟨tT,eq_of_beq ae,by simp[sub]⟩
 · cases h
theorem W.range{f:Operand}{ps:Array Nat}{as cb:Code}{Γ:Env}{Q:bK->aU->List bC->bG->aa->Prop}{r:aU}{d:List bC}{q:bG}{h:aa}{g:Nat}{caps:List J}
  (hf:nA 0 [] Γ (cP P need [] f)=some (.fn g [] caps))(hm:Mod r Γ)
  (ah:∃e an,jh (h.n+1) r (.collected h.n::d) q (call (.fn g) (.bR (h.n+1)::caps) ((h.push (.defrd (some []))).push (.loop .ready none need r ps.toList as cb h.n)))=.ok e r (.collected h.n::d) q an/\Q e r (.collected h.n::d) q an):
  W P need none call (.rangeFunc f ps as cb) Q r d q h:=by
 obtain⟨e,an,c1,c2⟩:=ah
 refine⟨e,r,_,q,an,?_,c2⟩
 have ao:=tN hm hf
 rw[<-c1]
 simp only[dD,xw,ao,sY,n2]
 rfl
theorem WF.range{p:List Nat}{t:Nat}{ps:List Nat}{Γ:Env}{Q:bK->aU->List bC->bG->aa->Prop}{r:aU}{d:List bC}{q:bG}{h:aa}{g:Nat}{caps:List J}(hs:Fv (.tmp t) ps (sub (fv fn) p)=true)
  (aJ:Nat.testBit (dh fn) t=true)(hf:fy t Γ=some (.fn g [] caps))(hm:Mod r Γ)
  (ah:∃e an,jh (h.n+1) r (.collected h.n::d) q (call (.fn g) (.bR (h.n+1)::caps) ((h.push (.defrd (some []))).push (.loop .ready none (dh fn) r ps (sub (fv fn) (p++[0])) (sub (fv fn) (p++[1])) h.n)))=.ok e r (.collected h.n::d) q an/\Q e r (.collected h.n::d) q an):
  WF P fn none call p Q r d q h:=by
 obtain⟨tT,a1,he⟩:=Uy hs
 unfold WF
 rw[kL,kL] at ah
 rw[he]
 subst a1
 refine W.range (Γ:=Γ) ?_ hm ah
 have:cP P (dh fn) [] (.tmp t)=.lh (hc t):=by
  unfold cP
  simp only[iC,aJ]
 rw[this]
 show fy (hc t).num Γ=_
 rw[AH];exact hf
theorem Fw{intr:Nat->List J->aa->Option (J×aa)}{f:Nat}{n:Nat}{args:List J}{h:aa}{X:ax}(hf:P.funcs[f]? =some fn)(ag:fn.body.isSome=true)(af:intr f args h=none)(hle:Nat.ble args.length fn.ntmps=true)
  (hw:WF P fn none (e_ P intr n) [] (λe r d q an=>kd P (e_ P intr n) fn (.ok e r d q an)=X) (nd 0 args .leaf) [] .none h):e_ P intr (n+1) (.fn f) args h=X:=by
 obtain⟨c,ah⟩:=Option.isSome_iff_exists.1 ag
 have qF:fv fn=c:=by simp[fv,ah]
 obtain⟨e,r,d,q,an,ab,ae⟩:=hw
 rw[qF] at ab
 simp only[sub] at ab
 simp only[e_,af,qk,hf,ah,kC,hle,ab,ae]
end
end ay
namespace ay
open Go
theorem oz:∀l:List UInt8,(cy l).length=l.length
 |[]=>rfl
 |a::l=>by simp[cy,oz l]
theorem vX:∀l m:List UInt8,cy (l++m)=cy l++cy m
 |[],m=>rfl
 |a::l,m=>by simp[cy,vX l m]
theorem BR:∀l:List UInt8,(cy l).all J.bF=true
 |[]=>rfl
 |a::l=>by rw[cy,List.all_cons,BR l];rfl
theorem BS:∀l:List UInt8,nc (cy l)=some l
 |[]=>rfl
 |a::l=>by
  have ab:Nat.blt a.toNat 256=true:=by have:=UInt8.toNat_lt a;simp[Nat.blt];omega
  simp only[cy,nc,BS l,ab,UInt8.ofNat_toNat]
theorem vY:∀(xs ys:List J),xs.all J.bF=true->xs.length<=ys.length->eP 0 xs ys=some (xs++ys.drop xs.length)
 |[],ys,_,_=>by cases ys<;>simp[eP]
 |x::xs,[],_,h=>by simp at h
 |x::xs,y::ys,ad,h=>by
  simp only[List.all_cons,Bool.and_eq_true] at ad
  have bp:=vY xs ys ad.2 (by simpa using h)
  simp[eP,ad.1,bp]
theorem yG:∀(l xs ys:List J),xs.all J.bF=true->xs.length<=ys.length->eP l.length xs (l++ys)=some (l++(xs++ys.drop xs.length))
 |[],xs,ys,ad,h=>by simpa using vY xs ys ad h
 |a::l,[],ys,ad,h=>by simp[eP]
 |a::l,x::xs,ys,ad,h=>by
  have bp:=yG l (x::xs) ys ad h
  simp only[List.length_cons,List.cons_append,eP] at bp⊢
  rw[bp]
theorem qG{i j:Nat}(h:i+j<9223372036854775808):arith BinOp.add IntKind.i64 (Int.ofNat i) (Int.ofNat j)=some (J.int IntKind.i64 (Int.ofNat (i+j))):=by
 have h:=rF (i+j) h
 have e:Int.ofNat i+Int.ofNat j=((i+j:Nat):Int):=rfl
 simp only[arith,e,h];rfl
theorem r9{i j:Nat}(aI:j<=i)(h:i<9223372036854775808):arith BinOp.sub IntKind.i64 (Int.ofNat i) (Int.ofNat j)=some (J.int IntKind.i64 (Int.ofNat (i-j))):=by
 have h:=rF (i-j) (by omega)
 have e:Int.ofNat i-Int.ofNat j=((i-j:Nat):Int):=by
  have aE:Int.ofNat i=(i:Int):=rfl
  have aC:Int.ofNat j=(j:Int):=rfl
  rw[aE,aC];omega
 simp only[arith,e,h];rfl
theorem yH{i j:Nat}(h:i*j<9223372036854775808):arith BinOp.mul IntKind.i64 (Int.ofNat i) (Int.ofNat j)=some (J.int IntKind.i64 (Int.ofNat (i*j))):=by
 have h:=rF (i*j) h
 have e:Int.ofNat i*Int.ofNat j=((i*j:Nat):Int):=rfl
 simp only[arith,e,h];rfl
theorem nC{a b:Nat}(h:a<=b):fE (Int.ofNat a) (Int.ofNat b)=true:=by simp[fE];omega
theorem tU{a b:Nat}(h:¬a<=b):fE (Int.ofNat a) (Int.ofNat b)=false:=by simp[fE];omega
def tV(B e:Nat)(h:aa)(v:J)(w:List UInt8):Prop:=
 (v=.az/\w=[])\/∃c rest,v=.slice c 0 w.length (.aM 1)/\h.get c=some (.cells (cy w++rest) e .aM 0 0)/\B<=c/\c<h.n
theorem tV.ext{B e:Nat}{h an:aa}{v:J}{w:List UInt8}(ag:tV B e h v w)(aJ:h.n<=an.n)(ao:∀c,B<=c->c<h.n->an.get c=h.get c):tV B e an v w:=by
 rcases ag with ab|⟨c,rest,ab,ae,av,aK⟩
 · exact .inl ab
 · exact .inr ⟨c,rest,ab,(ao c av aK).trans ae,av,by omega⟩
section
variable {P:Program}
theorem Uz{B:Nat}{h:aa}{v:J}{w s:List UInt8}{sT e:TypeId}{xT:Option TypeId}{i:TypeInfo}{z:J}(bN:B<=h.n)(hu:P.underlying sT=some (.slice e))(gU:o6 P xT=true)(af:P.info? e=some i)(bE:i.size=1)(a0:eG P e=some z)(jk:z.cells.length=1)
  (ta:lR (w.length+s.length) i.bytes=true)(ai:tV B e h v w):
  ∃v' an,gl P h sT xT v (.str s)=some (v',an)/\tV B e an v' (w++s)/\Ext B h an:=by
 have hH:hP h 1 (.str s)=some (s.length,cy s):=rfl
 have Lh:Nat.beq z.cells.length 1=true:=by rw[jk];rfl
 rcases ai with⟨rfl,rfl⟩|⟨c,rest,rfl,ao,yI,ow⟩
 · cases s with
   |nil=>exact⟨.az,h,by simp only[gl,hu,gU,af,a0,bE];rfl,.inl ⟨rfl,rfl⟩,Ext.refl _ _⟩
   |cons a s=>
    have UA:lR (a::s).length i.bytes=true:=by simpa using ta
    have dn:=yD (h:=h) (e:=e) (fz:=0) UA Lh (BR (a::s))
    refine⟨.slice h.n 0 (a::s).length (.aM 1),h.push (.cells (cy (a::s)) e .aM 0 0),?_,.inr ⟨h.n,[],by simp,by rw[aa.eD,if_pos rfl];simp,bN,by simp⟩,Ext.push bN _⟩
    rw[<-dn]
    simp only[gl,hu,gU,af,a0,bE,hH]
    rfl
 · cases s with
   |nil=>exact⟨.slice c 0 w.length (.aM 1),h,by simp only[gl,hu,gU,af,a0,bE];rfl,.inr ⟨c,rest,by simp,by simpa using ao,yI,ow⟩,Ext.refl _ _⟩
   |cons a s=>
    have Li:(Nat.beq 1 1&&Nat.blt 0 1)=true:=rfl
    by_cases rJ:(a::s).length<=rest.length
    · have qH:Nat.ble (0+(w.length+(a::s).length)*1) (cy w++rest).length=true:=by
        simp only[Nat.ble_eq,List.length_append,oz];omega
      have aY:=yG (cy w) (cy (a::s)) rest (BR _) (by rw[oz];exact rJ)
      have hw:jv .aM 0 0 (0+w.length*1) (cy (a::s)).length=true:=by unfold jv;simp
      have yb:eP (0+w.length*1) (cy (a::s)) (cy w++rest)=some (cy w++(cy (a::s)++rest.drop (cy (a::s)).length)):=by
       rw[<-aY,oz];simp
      refine⟨.slice c 0 (w.length+(a::s).length) (.aM 1),h.set c (some (.cells (cy w++(cy (a::s)++rest.drop (cy (a::s)).length)) e .aM 0 0)),?_,.inr ⟨c,rest.drop (cy (a::s)).length,by simp,by rw[aa.bH,if_pos rfl,vX];simp,yI,by simpa using ow⟩,Ext.set yI _⟩
      simp only[gl,hu,gU,af,a0,bE,hH]
      simp only[Li,List.length_cons,ao]
      simp only[List.length_cons] at qH yb hw
      simp only[qH,ay.storeCells,ao,hw,yb]
    · have qH:Nat.ble (0+(w.length+(a::s).length)*1) (cy w++rest).length=false:=by
        cases ag:Nat.ble (0+(w.length+(a::s).length)*1) (cy w++rest).length with
        |false=>rfl
        |true=>simp only[Nat.ble_eq,List.length_append,oz] at ag;omega
      have aw:loadCells h c 0 (w.length*1)=some (cy w):=by
       have:=BP (xs:=cy w) ao
       rw[oz] at this;simpa using this
      have fI:(cy w++cy (a::s)).all J.bF=true:=by rw[<-vX];exact BR _
      have UB:(Nat.ble 0 (0+w.length*1)&&Nat.beq e e)=true:=by simp
      have dn:=yD (h:=h.set c none) (e:=e) (fz:=0-0) ta Lh fI
      refine⟨.slice (h.set c none).n 0 (w.length+(a::s).length) (.aM 1),(h.set c none).push (.cells (cy w++cy (a::s)) e .aM 0 0),?_,.inr ⟨(h.set c none).n,[],by simp,by rw[aa.eD,if_pos rfl,vX];simp,by simp;omega,by simp⟩,
       (Ext.set yI none).trans (Nat.le_refl _) (Ext.push (by simp;omega) _)⟩
      simp only[List.length_cons] at qH dn
      simp only[gl,hu,gU,af,a0,bE,hH]
      simp only[Li,List.length_cons,ao]
      simp only[qH,aw,UB,dn]
theorem UC{h:aa}{pT u:TypeId}{c e:Nat}{w:List UInt8}{rest:List J}(hw:w≠[])(aw:w.length<=100000000000)(hu:P.underlying pT=some (.pointer u))(he:P.underlyingId e=P.underlyingId u)(hs:dm P e=some 1)(ao:h.get c=some (.cells (cy w++rest) e .aM 0 0)):
  qd P h pT (.ptr c 0) (.int .i64 (Int.ofNat w.length))=some (.str w,h.set c (some (.cells (cy w++rest) e .fz 0 0))):=by
 have aJ:w.length≠0:=by cases w<;>simp at hw⊢
 have a2:takeN w.length (iO 0 (cy w++rest))=some (cy w):=by
  have:=BO (cy w) rest
  rw[oz] at this;exact this
 have hle:Nat.ble w.length 281474976710656=true:=by simp;omega
 simp only[qd,fF,if_neg aJ,hu,ao,he,hs,hle,a2,BS]
 simp
end
end ay
namespace ay
open Go
section
variable {D:Type}
variable {enc:D->List J} {w:Nat}
theorem Lj:∀(l m:List J) (n:Nat),l.length=n->takeN n (l++m)=some l
 |l,m,n,h=>by subst h;exact BO l m
theorem Fx:∀(l m:List J),iO l.length (l++m)=m
 |[],m=>by cases m<;>rfl
 |a::l,m=>by simp[iO,Fx l m]
end
end ay
namespace ay
open Go
theorem vZ(n:Nat)(h:n<18446744073709551616):IntKind.wrap .u64 (n:Int)=(n:Int):=by
 have e:((n:Int) %18446744073709551616)=n:=by omega
 have aC:(2:Int)^64=18446744073709551616:=by rfl
 simp only[IntKind.wrap,IntKind.bits,IntKind.signed,aC,e,Bool.false_and,if_neg Bool.false_ne_true]
theorem wrap_u8(n:Nat):IntKind.wrap .u8 (n:Int)=((n %256:Nat):Int):=by
 have aC:(2:Int)^8=256:=by rfl
 simp only[IntKind.wrap,IntKind.bits,IntKind.signed,aC,Bool.false_and,if_neg Bool.false_ne_true]
 omega
theorem Lk{i j:Nat}(h:i+j<18446744073709551616):arith BinOp.add IntKind.u64 (Int.ofNat i) (Int.ofNat j)=some (J.int IntKind.u64 (Int.ofNat (i+j))):=by
 have h:=vZ (i+j) h
 have e:Int.ofNat i+Int.ofNat j=((i+j:Nat):Int):=rfl
 simp only[arith,e,h];rfl
theorem Ll{i j:Nat}(aI:j<=i)(h:i<18446744073709551616):arith BinOp.sub IntKind.u64 (Int.ofNat i) (Int.ofNat j)=some (J.int IntKind.u64 (Int.ofNat (i-j))):=by
 have h:=vZ (i-j) (by omega)
 have e:Int.ofNat i-Int.ofNat j=((i-j:Nat):Int):=by
  have aE:Int.ofNat i=(i:Int):=rfl
  have aC:Int.ofNat j=(j:Int):=rfl
  rw[aE,aC];omega
 simp only[arith,e,h];rfl
theorem UD{i j:Nat}:arith BinOp.add IntKind.u8 (Int.ofNat i) (Int.ofNat j)=some (J.int IntKind.u8 (Int.ofNat ((i+j) %256))):=by
 have h:=wrap_u8 (i+j)
 have e:Int.ofNat i+Int.ofNat j=((i+j:Nat):Int):=rfl
 simp only[arith,e,h];rfl
theorem Fy(k:IntKind){i j:Nat}(aI:j<=k.bits):ml BinOp.shr k (Int.ofNat i) (Int.ofNat j)=some (J.int k (Int.ofNat (i/2^j))):=by
 have aJ:¬(Int.ofNat j<0):=by
  have aE:Int.ofNat j=(j:Int):=rfl
  rw[aE];omega
 have aE:(Int.ofNat j).toNat=j:=rfl
 have aC:min j k.bits=j:=by omega
 have bu:(Int.ofNat i).fdiv (2^j)=((i/2^j:Nat):Int):=by
  have:(2:Int)^j=((2^j:Nat):Int):=by norm_cast
  rw[this]
  show((i:Int)).fdiv ((2^j:Nat):Int)=_
  rw[Int.fdiv_eq_ediv_of_nonneg _ (Int.natCast_nonneg _)]
  rfl
 simp only[ml,if_neg aJ,aE,aC,bu];rfl
theorem BT{P:Program}{call:aO->List J->aa->ax}{l need t et:Nat}{Γ gV hG:Env}{as cb:Code}{v:J}{h ab ae:aa}{q aT:bG}{e:bK}{r:aU}
  (ao:h.get l=some (.loop .ready none need r [t] as cb et))(hm:Mod r Γ)
  (a5:c9 P need (some l) call as ⟨put t v Γ,[],.none,h⟩ .nrm ⟨gV,[],q,ab⟩)(dn:ab.get l=some (.loop .ready none need r [t] as cb et))
  (ag:c9 P need (some l) call cb ⟨gV,[],.none,ab.set l (some (.loop .busy none need r [t] as cb et))⟩ e ⟨hG,[],aT,ae⟩)
  (au:ae.get l=some (.loop .busy none need r [t] as cb et)):
  n4 P call l [v] h=Lf l e need r [t] as cb et ae:=by
 obtain⟨ba,aE,cE⟩:=a5 _ (hm.put t v)
 obtain⟨bt,aC,hB⟩:=ag _ cE
 simp only at aE aC
 simp only[n4,ao,s3,aE,AD,dn,aC]
 simp only[vp,au]
 cases e<;>rfl
section
variable {P:Program}
theorem v3{a b:TypeId}{ka k ew:IntKind}{n:Int}{h:aa}(a5:P.underlying a=some (.int ka))(ag:P.underlying b=some (.int ew)){m:Int}(hm:ew.wrap n=m):ea P a b (.int k n) h=.val (.int ew m) h:=by
 simp only[ea,a5,ag,hm]
theorem UE{a b e:TypeId}{h:aa}{c:Nat}{cap:cj}{w:List UInt8}{rest:List J}{el aW up:Nat}{k:eZ}(a5:P.underlying a=some (.slice e))(he:P.underlying e=some (.int .u8))(ag:P.underlying b=some .string)(pg:cap=.exact w.length\/cap=.aM 1)
  (ao:h.get c=some (.cells (cy w++rest) el k aW up)):ea P a b (.slice c 0 w.length cap) h=.val (.str w) h:=by
 have aw:loadCells h c 0 w.length=some (cy w):=by
  have:=BP (xs:=cy w) ao
  rwa [oz] at this
 rcases pg with rfl|rfl<;>simp only[ea,a5,he,ag,aw,BS]
theorem Lm:∀(n:Nat) (z:J),e8 n [z]=List.replicate n z
 |0,z=>rfl
 |n+1,z=>by rw[e8,Lm n z,List.singleton_append,List.replicate_succ]
theorem UF{h:aa}{t e:TypeId}{n:Nat}{i:TypeInfo}(hu:P.underlying t=some (.slice e))(af:P.info? e=some i)(bE:i.size=1)(nz:i.bytes=1)(a0:eG P e=some (.int .u8 (Int.ofNat 0)))(aJ:0<n)(hle:n<=1000000):
  vR P h t (.int .i64 (Int.ofNat n)) (.int .i64 (Int.ofNat n))=some (.slice h.n 0 n (.exact n),h.push (.cells (List.replicate n (.int .u8 (Int.ofNat 0))) e .own 0 0)):=by
 have ab:(decide (n<=n)&&Nat.ble (n*(i.bytes+1)) 1099511627776&&Nat.beq (J.cells (.int .u8 (Int.ofNat 0))).length i.size)=true:=by
  rw[nz,bE]
  have:n*(1+1)<=1099511627776:=by omega
  simp[J.cells,this]
 have ae:¬(n*i.size=0):=by rw[bE];omega
 have av:(List.replicate n (J.int .u8 (Int.ofNat 0))).all J.bF=true:=by
  simp[List.all_replicate,J.bF]
 have aK:e8 n (J.cells (.int .u8 (Int.ofNat 0)))=List.replicate n (J.int .u8 (Int.ofNat 0)):=Lm n _
 unfold vR
 simp only[hu,fF,af,a0,ab,if_true,if_neg ae,aK,newRow,av]
end
end ay
namespace ay
open Go
theorem BU{a b:Nat}(h:a=b):de (Int.ofNat a) (Int.ofNat b)=true:=by subst h;simp[de]
theorem v5{a b:Nat}(h:¬a=b):de (Int.ofNat a) (Int.ofNat b)=false:=by
 cases ad:de (Int.ofNat a) (Int.ofNat b) with
 |false=>rfl
 |true=>simp[de] at ad;omega
theorem UG(m l:Nat):jv .own 0 0 m l=true:=by unfold jv;simp
theorem yJ(m l:Nat):jv .aM 0 0 m l=true:=by unfold jv;simp
theorem Ln{h:aa}{b el:Nat}{k:eZ}{l r:List J}{x y:J}(au:k=.own\/k=.aM)(ao:h.get b=some (.cells (l++y::r) el k 0 0)){off:Nat}(a8:off=l.length)(ad:x.bF=true):
  ay.storeCells h b off [x]=some (h.set b (some (.cells (l++x::r) el k 0 0))):=by
 subst a8
 have aY:=Le l [] x y r ad
 rcases au with rfl|rfl
 · have hw:=UG l.length [x].length
   simp only[ay.storeCells,ao,hw,aY]
 · have hw:=yJ l.length [x].length
   simp only[ay.storeCells,ao,hw,aY]
structure cz(p B:Nat)(h an:aa):Prop where
 n:h.n<=an.n
 get:∀b,b<B->b≠p->an.get b=h.get b
theorem Ext.jo{B:Nat}{h an:aa}(e:Ext B h an)(p:Nat):cz p B h an:=⟨e.n,λb ag _=>e.get b ag⟩
theorem cz.refl(p B:Nat)(h:aa):cz p B h h:=⟨Nat.le_refl _,λ_ _ _=>rfl⟩
theorem cz.trans{p B hT:Nat}{h ab ae:aa}(bN:B<=hT)(e:cz p B h ab)(cI:cz p hT ab ae):cz p B h ae:=⟨Nat.le_trans e.n cI.n,λb ag aY=>(cI.get b (Nat.lt_of_lt_of_le ag bN) aY).trans (e.get b ag aY)⟩
theorem cz.set{p B:Nat}{h:aa}(o:Option b3):cz p B h (h.set p o):=⟨by simp,λc _ aY=>by rw[aa.bH,if_neg aY]⟩
theorem cz.push{p B:Nat}{h:aa}(bN:B<=h.n)(o:b3):cz p B h (h.push o):=(Ext.push bN o).jo p
theorem cz.Lo{p B:Nat}{h an:aa}(e:cz p B h an)(aY:B<=p):Ext B h an:=⟨e.n,λb ag=>e.get b ag (by omega)⟩
theorem cz.le{p B hT:Nat}{h an:aa}(e:cz p hT h an)(bN:B<=hT):cz p B h an:=⟨e.n,λb ag=>e.get b (by omega)⟩
theorem Ext.le{B hT:Nat}{h an:aa}(e:Ext hT h an)(bN:B<=hT):Ext B h an:=⟨e.n,λb ag=>e.get b (by omega)⟩
end ay
namespace ay
open Go
theorem dA{h:aa}{o:b3}{b:Nat}(ag:b=h.n):(h.push o).get b=some o:=by subst ag;rw[aa.eD,if_pos rfl]
theorem h6{h:aa}{o:b3}{b:Nat}{x:Option b3}(ag:b<h.n)(ad:h.get b=x):(h.push o).get b=x:=by rw[aa.eD,if_neg (by omega)];exact ad
theorem dN{h:aa}{o:b3}{b c:Nat}(ag:b=c):(h.set c (some o)).get b=some o:=by subst ag;rw[aa.bH,if_pos rfl]
theorem eh{h:aa}{b c:Nat}{o x:Option b3}(ag:¬b=c)(ad:h.get b=x):(h.set c o).get b=x:=by rw[aa.bH,if_neg ag];exact ad
theorem dX{h:aa}{k b:Nat}{x:Option b3}(ad:h.get b=x):(h.room k).get b=x:=ad
theorem Lp{B b:Nat}{h g:aa}{x:Option b3}(e:Ext B h g)(ag:b<B)(ad:h.get b=x):g.get b=x:=(e.get b ag).trans ad
theorem Lq{B b p:Nat}{h g:aa}{x:Option b3}(e:cz p B h g)(ag:b<B)(aY:¬b=p)(ad:h.get b=x):g.get b=x:=(e.get b ag aY).trans ad
theorem aB{h:aa}{b off:Nat}{cs:List J}{e aW up:Nat}{k:eZ}{v:J}(ao:h.get b=some (.cells cs e k aW up))(aJ:nth off cs=some v):aA h b off=some v:=by simp only[aA,ao,aJ]
theorem hq{h:aa}{b off m:Nat}{cs vs:List J}{e aW up:Nat}{k:eZ}(ao:h.get b=some (.cells cs e k aW up))(aJ:takeN m (iO off cs)=some vs):ay.loadCells h b off m=some vs:=by simp only[ay.loadCells,ao,aJ]
theorem dY{h:aa}{b off:Nat}{xs cs bS:List J}{e aW up:Nat}{k:eZ}(ao:h.get b=some (.cells cs e k aW up))(hw:jv k aW up off xs.length=true)(aY:eP off xs cs=some bS):ay.storeCells h b off xs=some (h.set b (some (.cells bS e k aW up))):=by simp only[ay.storeCells,ao,hw,aY]
theorem Ext.e3{B b:Nat}{h g:aa}{o:Option b3}(ag:B<=b)(e:Ext B h g):Ext B h (g.set b o):=e.trans (Nat.le_refl _) (Ext.set ag _)
theorem Ext.jJ{B:Nat}{h g:aa}{o:b3}(bN:B<=g.n)(e:Ext B h g):Ext B h (g.push o):=e.trans (Nat.le_refl _) (Ext.push bN _)
theorem Ext.hI{B k:Nat}{h g:aa}(e:Ext B h g):Ext B h (g.room k):=⟨Nat.le_trans e.n (Nat.le_add_right _ _),e.get⟩
theorem Ext.Fz{B hT:Nat}{h g ez:aa}(x:Ext hT g ez)(bN:B<=hT)(e:Ext B h g):Ext B h ez:=e.trans bN x
theorem Ext.FA{B hT p:Nat}{h g ez:aa}(x:cz p hT g ez)(bN:B<=hT)(aY:B<=p)(e:Ext B h g):Ext B h ez:=e.trans (Nat.le_refl _) ((x.le bN).Lo aY)
theorem cz.FB{B p:Nat}{h g:aa}{o:Option b3}(e:cz p B h g):cz p B h (g.set p o):=e.trans (Nat.le_refl _) (cz.set _)
theorem cz.e3{B b p:Nat}{h g:aa}{o:Option b3}(ag:B<=b)(e:cz p B h g):cz p B h (g.set b o):=e.trans (Nat.le_refl _) ((Ext.set ag _).jo p)
theorem cz.jJ{B p:Nat}{h g:aa}{o:b3}(bN:B<=g.n)(e:cz p B h g):cz p B h (g.push o):=e.trans (Nat.le_refl _) (cz.push bN _)
theorem cz.Fz{B hT p:Nat}{h g ez:aa}(x:Ext hT g ez)(bN:B<=hT)(e:cz p B h g):cz p B h ez:=e.trans bN (x.jo p)
theorem cz.FA{B hT p:Nat}{h g ez:aa}(x:cz p hT g ez)(bN:B<=hT)(e:cz p B h g):cz p B h ez:=e.trans bN x
theorem v7(a:List UInt8):cw a a=true:=by
 induction a with
 |nil=>rfl
 |cons x l bp=>simp[cw,bp]
theorem tW(a b:Int):iA jy (.int .i64 a) [.int .i64 b]=some (.int .i64 (min a b)):=by
 simp only[iA,jy,if_true]
 by_cases h:b<a
 · have aw:dZ b a=true:=by simp[dZ];omega
   rw[if_pos aw,Int.min_eq_right (by omega)]
 · have aw:¬dZ b a=true:=by simp[dZ];omega
   rw[if_neg aw,Int.min_eq_left (by omega)]
theorem UH{B:Nat}{h g:aa}(e:Ext B h g:=by repeat (first|with_reducible exact Ext.refl _ _|with_reducible assumption|with_reducible refine Ext.hI ?_|with_reducible refine Ext.e3 (by first|omega|(simp only[aa.eJ,aa.fr,aa.hj];omega)) ?_|with_reducible refine Ext.jJ (by first|omega|(simp only[aa.eJ,aa.fr,aa.hj];omega)) ?_|with_reducible refine Ext.Fz (by with_reducible assumption) (by first|omega|(simp only[aa.eJ,aa.fr,aa.hj];omega)) ?_|with_reducible refine Ext.FA (by with_reducible assumption) (by first|omega|(simp only[aa.eJ,aa.fr,aa.hj];omega)) (by first|omega|(simp only[aa.eJ,aa.fr,aa.hj];omega)) ?_|refine Ext.e3 (by first|omega|(simp only[aa.eJ,aa.fr,aa.hj];omega)) ?_)):Ext B h g:=e
theorem yK{B p:Nat}{h g:aa}(e:cz p B h g:=by repeat (first|with_reducible exact cz.refl _ _ _|with_reducible assumption|with_reducible refine cz.FB ?_|with_reducible refine cz.e3 (by first|omega|(simp only[aa.eJ,aa.fr,aa.hj];omega)) ?_|with_reducible refine cz.jJ (by first|omega|(simp only[aa.eJ,aa.fr,aa.hj];omega)) ?_|with_reducible refine cz.Fz (by with_reducible assumption) (by first|omega|(simp only[aa.eJ,aa.fr,aa.hj];omega)) ?_|with_reducible refine cz.FA (by with_reducible assumption) (by first|omega|(simp only[aa.eJ,aa.fr,aa.hj];omega)) ?_)):cz p B h g:=e
theorem r_{h:aa}{b off:Nat}{cs:List J}{e aW up:Nat}{k:eZ}{v:J}(aJ:nth off cs=some v)(ao:h.get b=some (.cells cs e k aW up):=by repeat (first|with_reducible assumption|(with_reducible refine dA ?_;first|with_reducible rfl|(first|omega|(simp only[aa.eJ,aa.fr,aa.hj];omega)))|with_reducible refine dX ?_|with_reducible refine h6 (by first|omega|(simp only[aa.eJ,aa.fr,aa.hj];omega)) ?_|with_reducible exact dN rfl|with_reducible refine eh (by first|omega|(simp only[aa.eJ,aa.fr,aa.hj];omega)) ?_|with_reducible refine Lp (by with_reducible assumption) (by first|omega|(simp only[aa.eJ,aa.fr,aa.hj];omega)) ?_|with_reducible refine Lq (by with_reducible assumption) (by first|omega|(simp only[aa.eJ,aa.fr,aa.hj];omega)) (by first|omega|(simp only[aa.eJ,aa.fr,aa.hj];omega)) ?_|exact dN rfl|refine eh (by first|omega|(simp only[aa.eJ,aa.fr,aa.hj];omega)) ?_)):aA h b off=some v:=aB ao aJ
theorem nD{h:aa}{b off:Nat}{xs cs bS:List J}{e aW up:Nat}{k:eZ}(hw:jv k aW up off xs.length=true)(aY:eP off xs cs=some bS)(ao:h.get b=some (.cells cs e k aW up):=by repeat (first|with_reducible assumption|(with_reducible refine dA ?_;first|with_reducible rfl|(first|omega|(simp only[aa.eJ,aa.fr,aa.hj];omega)))|with_reducible refine dX ?_|with_reducible refine h6 (by first|omega|(simp only[aa.eJ,aa.fr,aa.hj];omega)) ?_|with_reducible exact dN rfl|with_reducible refine eh (by first|omega|(simp only[aa.eJ,aa.fr,aa.hj];omega)) ?_|with_reducible refine Lp (by with_reducible assumption) (by first|omega|(simp only[aa.eJ,aa.fr,aa.hj];omega)) ?_|with_reducible refine Lq (by with_reducible assumption) (by first|omega|(simp only[aa.eJ,aa.fr,aa.hj];omega)) (by first|omega|(simp only[aa.eJ,aa.fr,aa.hj];omega)) ?_|exact dN rfl|refine eh (by first|omega|(simp only[aa.eJ,aa.fr,aa.hj];omega)) ?_)):ay.storeCells h b off xs=some (h.set b (some (.cells bS e k aW up))):=dY ao hw aY
end ay
