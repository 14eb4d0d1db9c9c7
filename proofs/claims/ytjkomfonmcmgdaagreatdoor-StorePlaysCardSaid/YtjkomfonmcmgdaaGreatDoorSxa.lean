/-
  PROVED HERE: symbolic runs of the evaluator, and that they are sound (Sxa). No condition beside each statement's own.
-/
import Derived.Test.YtjkomfonmcmgdaaGreatDoorAed
set_option linter.unusedVariables false
set_option linter.unusedSimpArgs false
namespace bg
open Go
abbrev Env:=List (Nat×ad)
def eo(t:Nat):Env->Option ad
 |[]=>none
 |(u,v)::l=>match Nat.beq t u with
  |true=>some v
  |false=>eo t l
def del(t:Nat):Env->Env
 |[]=>[]
 |(u,v)::l=>match Nat.beq t u with
  |true=>del t l
  |false=>(u,v)::del t l
def put(t:Nat)(v:ad)(Γ:Env):Env:=(t,v)::del t Γ
def o0(Γ:Env):List Nat->Env
 |[]=>[]
 |t::l=>match eo t Γ with
  |some v=>(t,v)::o0 Γ l
  |none=>o0 Γ l
def Mod(r:ba)(Γ:Env):Prop:=∀t v,eo t Γ=some v->r.get (h_ t)=v
structure bL where
 Γ:Env
 d:List cb
 q:bU
 h:ab
inductive Hint where
 |v (v:ad)
 |n5 (v:ad) (h:ab)
 |c (v:ad) (h:ab)
 |p (v:ad) (h:ab)
 |b (b:Bool)
 |loop (e:bW) (st:bL)
 |W8 (v:ad) (o:dQ)
 |o (v:ad)
 |W9
def dM:List Prop->Prop
 |[]=>True
 |p::l=>p/\dM l
theorem dM.cons{p:Prop}{l:List Prop}(h:p)(t:dM l):dM (p::l):=⟨h,t⟩
theorem dM.nil:dM []:=trivial
theorem dM.append:∀{l m:List Prop},dM (l++m)->dM l/\dM m
 |[],m,h=>⟨trivial,h⟩
 |p::l,m,h=>⟨⟨h.1,(dM.append h.2).1⟩,(dM.append h.2).2⟩
def pO(m:Nat)(env:List ad)(Γ:Env):Acc->Option ad
 |.env j=>nth (m-1-j) env
 |.reg p=>eo p.num Γ
 |.val v=>some v
def HJ(o:Oper)(g:Operand->ad):Nat:=match o.op with
 |.load .. |.slice .. |.index .. |.indexAddr .. |.lookup .. |.entry .. =>1
 |.binOp op _ x y _=>match op,g x,g y with
  |.eql,.int _ _,.int _ _|.neq,.int _ _,.int _ _|.lss,.int _ _,.int _ _|.leq,.int _ _,.int _ _|.gtr,.int _ _,.int _ _|.geq,.int _ _,.int _ _=>0
  |.eql,.str _,.str _|.neq,.str _,.str _|.lss,.str _,.str _|.leq,.str _,.str _|.gtr,.str _,.str _|.geq,.str _,.str _=>0
  |_,_,_=>1
 |.unOp op _ _=>match op with
  |.not=>0
  |_=>1
 |.convert _ _ x=>match g x with
  |.str _=>2
  |_=>1
 |.range _ x=>match g x with
  |.map _=>2
  |_=>0
 |.store .. |.mapUpdate .. |.mapEntry .. |.entryStore .. |.insert .. |.next .. |.makeSlice .. =>2
 |.call c=>match c.callee with
  |.builtin b=>match b with
   |.len=>match c.args.toList.map g with
    |[.map _]=>1
    |_=>0
   |.cap|.min|.max|.unsafeSliceData=>1
   |.append|.copy|.clear|.delete|.unsafeString=>2
   |_=>0
  |_=>0
 |_=>0
def hX(n:Nat)(s:List UInt8):Option ad:=match nth n s with
 |some b=>some (.int .u8 (Int.ofNat b.toNat))
 |none=>none
def qG(P:Program)(o:Oper)(g:Operand->ad)(h:ab)(v:ad):Prop:=match o.op with
 |.load t a=>match g a,re P t,ef P t with
  |.ptr b off,some false,some _=>aq h b off=some v
  |.ptr b off,some true,some n=>match v with
   |.agg cs=>loadCells h b off n=some cs
   |_=>False
  |_,_,_=>False
 |.binOp op t x y _=>match g x,g y with
  |.int k a,.int cO b=>match op with
   |.shl=>tL .shl k a b=some v
   |.shr=>tL .shr k a b=some v
   |op=>match decide (k=cO) with
    |true=>arith op k a b=some v
    |false=>False
  |.str a,.str b=>hL op a b=some v
  |a,b=>ec P h op t x y a b=some v
 |.slice t x lo hi mx=>dC P h t (g x) (lo.map g) (hi.map g) (mx.map g)=some v
 |.index t x i=>match P.underlying t,g x,fe (g i) with
  |some .string,.str s,some n=>hX n s=some v
  |some (.array m e),.agg cs,some n=>match ef P e with
   |some sz=>n<m/\kp P e cs (n*sz)=some v
   |none=>False
  |_,_,_=>False
 |.indexAddr t x i=>match P.underlying t,g x,fe (g i) with
  |some (.array m e),.ptr b off,some n=>match ef P e with
   |some sz=>n<m/\v=.ptr b (off+n*sz)
   |none=>False
  |some (.slice e),.slice b off m c,some n=>match ef P e with
   |some sz=>n<m/\v=.ptr b (off+n*sz)
   |none=>False
  |_,_,_=>False
 |.lookup t x i ok=>ho P h t (g x) (g i) ok=some v
 |.entry it=>vB h (g it)=some v
 |.unOp op _ x=>match op,g x with
  |.neg,.int k n=>v=.int k (k.wrap (0-n))
  |.xor,.int k n=>arith .xor k (if k.signed then-1 else k.max) n=some v
  |_,_=>False
 |.convert src dst x=>hp P src dst (g x) h=.val v h
 |.call c=>match c.callee,c.args.toList.map g,c.argTypes[0]? with
  |.builtin .len,[x],some t=>bV P h t x=some v
  |.builtin .cap,[x],some t=>xL P t x=some v
  |.builtin .min,x::l,_=>mH sm x l=some v
  |.builtin .max,x::l,_=>mH sn x l=some v
  |.builtin .unsafeSliceData,[x],some t=>jH P .unsafeSliceData #[t] [x] h=.val v h
  |_,_,_=>False
 |_=>False
def D7(P:Program)(h:ab)(t:TypeId)(l c:ad):Option (ad×ab):=match P.underlying t,fe l,fe c with
 |some (.slice e),some l,some c=>match P.info? e,eT P e with
  |some i,some z=>if l<=c&&Nat.ble (c*(i.bytes+1)) 1099511627776&&Nat.beq z.cells.length i.size then(match newRow h e (if c*i.size=0 then[] else gm c z.cells) with
   |some (b,aw)=>some (.slice b 0 l (.exact c),aw)
   |none=>none) else none
  |_,_=>none
 |_,_,_=>none
def D8(h:ab):ad->Option (ad×ab)
 |.map m=>match h.get m with
  |some (.map _ c)=>some (.ptr h.n 0,h.push (.mapIter (some m) c [] c))
  |_=>none
 |_=>none
def yl(P:Program)(o:Oper)(g:Operand->ad)(h:ab)(v:ad)(aw:ab):Prop:=match o.op with
 |.store t a x=>match g a with
  |.ptr b off=>ef P t=some (g x).cells.length/\storeCells h b off (g x).cells=some aw/\v=.aR []
  |_=>False
 |.convert src dst x=>hp P src dst (g x) h=.val v aw
 |.mapUpdate t m k x=>xN P h t (g m) (g k) (g x)=some aw/\v=.aR []
 |.insert t m k x=>xN P h t (g m) (g k) (g x)=some aw/\v=.aR []
 |.mapEntry t m k=>rm P h t (g m) (g k)=some (v,aw)
 |.entryStore t m s x=>rn h (g m) (g s) (g x)=some aw/\v=.aR []
 |.next it isStr=>C8 h (g it) isStr=some (v,aw)
 |.range t x=>match P.underlying t with
  |some (.map _ _)=>D8 h (g x)=some (v,aw)
  |_=>False
 |.makeSlice t l c=>D7 P h t (g l) (g c)=some (v,aw)
 |.call c=>match c.callee,c.args.toList.map g,c.argTypes[0]? with
  |.builtin .append,[x,y],some t=>dJ P h t c.argTypes[1]? x y=some (v,aw)
  |.builtin .copy,[x,y],some t=>xM P h t x y=some (v,aw)
  |.builtin .clear,[x],some t=>rh P h t x=some (v,aw)
  |.builtin .delete,[x,y],some t=>rp P h t x y=some (v,aw)
  |.builtin .unsafeString,[x,y],some t=>ri P h t x y=some (v,aw)
  |_,_,_=>False
 |_=>False
inductive o1 where
 |ok (v:ad) (d:List cb) (q:bU) (h:ab)
 |cw (v:ad) (d:List cb) (q:bU) (h:ab)
def o1.res:o1->z2
 |.ok v d q h=>.ok v d q h
 |.cw v d q h=>.cw v d q h
inductive mT(α:Type 1) where
 |dn (a:α)
 |stop (kH:String) (x:Option Bool)
structure ih(α:Type):Type 1 where
 res:α
 cs:List Prop
 al:List Hint
structure W_(l:List ad):Prop where
 h:l.all ad.de=true
def D9(call:aW)(pos:String)(f:ff)(args:List ad)(d:List cb)(q:bU)(h:ab):List Hint->mT (ih o1)
 |.c v aw::al=>.dn ⟨.ok v d q aw,[call f args h=.ret v aw],al⟩
 |.p v aw::al=>.dn ⟨.cw v d q aw,[call f args h=.cw v aw],al⟩
 |_=>.stop ("call " ++pos) none
def Xa(P:Program)(o:Oper):Bool:=match o.op with
 |.call c=>match c.callee with
  |.builtin b=>match b with
   |.len=>true
   |_=>false
  |_=>false
 |.binOp op t _ _ _=>match op with
  |.eql|.neq=>match P.underlying t with
   |some (.int _)=>false
   |some .string=>false
   |some .bool=>false
   |some _=>true
   |none=>false
  |_=>false
 |_=>false
def Xb(P:Program)(o:Oper):List Hint->Option (ad×List Hint)
 |.o v::al=>match Xa P o with
  |true=>some (v,al)
  |false=>none
 |_=>none
def N4(o:Oper):List Hint->Option (TypeId×Operand×List Hint)
 |.W9::al=>match o.op with
  |.box e x=>some (e,x,al)
  |_=>none
 |_=>none
def HK(P:Program)(inR:Bool)(call:aW)(o:Oper)(g:Operand->ad)(d:List cb)(q:bU)(h:ab)(al:List Hint):mT (ih o1):=
 match Xb P o al with
 |some (v,al)=>.dn ⟨.ok v d q h,[qG P o g h v],al⟩
 |none=>match N4 o al with
  |some (e,x,al)=>.dn ⟨.ok (.ptr h.n 0) d q (h.push (.cells (g x).cells e .own 0 0)),[W_ (g x).cells],al⟩
  |none=>match HJ o g with
   |0=>match c7 P o g h with
    |.val v aw=>.dn ⟨.ok v d q aw,[],al⟩
    |.cw v aw=>.dn ⟨.cw v d q aw,[],al⟩
    |.call f args aw=>D9 call o.pos (.fn f) args d q aw al
    |.eb l args aw=>D9 call o.pos (.eb l) args d q aw al
    |.m_ x=>match inR with
     |true=>.stop "defer" none
     |false=>.dn ⟨.ok (.aR []) (x::d) q h,[],al⟩
    |.vy=>match inR with
     |true=>.stop "recover" none
     |false=>match q with
      |.none=>.dn ⟨.ok .fU d .none h,[],al⟩
      |.done v=>.dn ⟨.ok .fU d (.done v) h,[],al⟩
      |.act v=>.dn ⟨.ok v d (.done v) h,[],al⟩
    |.fail w=>.stop (w++ " " ++o.pos) none
   |1=>match al with
    |.v v::al=>.dn ⟨.ok v d q h,[qG P o g h v],al⟩
    |_=>.stop ("value " ++o.pos) none
   |_=>match al with
    |.n5 v aw::al=>.dn ⟨.ok v d q aw,[yl P o g h v aw],al⟩
    |_=>.stop ("value and memory " ++o.pos) none
def HL(o:Oper)(g:Operand->ad)(d:List cb)(q:bU)(h:ab)(al:List Hint):Option (mT (ih o1)):=match o.op with
 |.pick c a b=>match g c with
  |.bool x=>match al with
   |.b true::al=>some (.dn ⟨.ok (g a) d q h,[x=true],al⟩)
   |.b false::al=>some (.dn ⟨.ok (g b) d q h,[x=false],al⟩)
   |_=>some (.stop ("pick " ++o.pos) (some x))
  |_=>some (.stop ("pick of what " ++o.pos) none)
 |_=>none
def D_(P:Program)(inR:Bool)(call:aW)(o:Oper)(g:Operand->ad)(d:List cb)(q:bU)(h:ab)(al:List Hint):mT (ih o1):=match HL o g d q h al with
 |some r=>r
 |none=>HK P inR call o g d q h al
def ym(P:Program)(inR:Bool)(call:aW)(gd:Option (ad×Bool))(o:Oper)(g:Operand->ad)(d:List cb)(q:bU)(h:ab)(al:List Hint):mT (ih o1):=
 match gd with
 |none=>D_ P inR call o g d q h al
 |some (.bool x,b)=>match al with
  |.b c::al=>match c==b with
   |true=>match D_ P inR call o g d q h al with
    |.dn ⟨s,cs,al⟩=>.dn ⟨s,(x=c)::cs,al⟩
    |.stop w x=>.stop w x
   |false=>.dn ⟨.ok (.aR []) d q h,[x=c],al⟩
  |_=>.stop ("guard " ++o.pos) (some x)
 |some (.aR [],_)=>.dn ⟨.ok (.aR []) d q h,[],al⟩
 |_=>.stop ("guard of what " ++o.pos) none
def yn(P:Program)(need m:Nat)(env:List ad)(Γ:Env)(loc:List (Nat×Acc))(o:Oper):Bool:=o.op.operands.toList.all λx=>(pO m env Γ (da P need loc x)).isSome
def mU(P:Program)(need m:Nat)(env:List ad)(Γ:Env)(loc:List (Nat×Acc))(x:Operand):ad:=(pO m env Γ (da P need loc x)).getD .bad
def N5(env:List ad)(Γ:Env)(s:Step):Option (Option (ad×Bool)):=match s.guard with
 |none=>some none
 |some (a,b)=>match pO s.m env Γ a with
  |some v=>some (some (v,b))
  |none=>none
def Ea(P:Program)(need:Nat)(inR:Bool)(call:aW)(Γ:Env):List Step->List ad->List cb->bU->ab->List Hint->mT (ih oH)
 |[],env,d,q,h,al=>.dn ⟨.ok env d q h,[],al⟩
 |s::rest,env,d,q,h,al=>
  match yn P need s.m env Γ s.loc s.o with
  |false=>.stop ("an operand " ++s.o.pos) none
  |true=>
   match N5 env Γ s with
   |none=>.stop ("guard " ++s.o.pos) none
   |some gd=>match ym P inR call gd s.o (mU P need s.m env Γ s.loc) d q h al with
    |.dn ⟨.ok v d' br aw,cs,en⟩=>match Ea P need inR call Γ rest (v::env) d' br aw en with
     |.dn ⟨x,b5,wk⟩=>.dn ⟨x,cs++b5,wk⟩
     |.stop w x=>.stop w x
    |.dn ⟨.cw v d' br aw,cs,en⟩=>.dn ⟨.cw v d' br aw,cs,en⟩
    |.stop w x=>.stop w x
def sX(need m:Nat)(env:List ad)(hF:Env):List (Nat×Acc)->Env->Env
 |[],Γ=>Γ
 |(t,a)::l,Γ=>
  match Nat.testBit need t with
  |true=>match pO m env hF a with
   |some v=>put t v (sX need m env hF l Γ)
   |none=>del t (sX need m env hF l Γ)
  |false=>sX need m env hF l Γ
def Eb:List (Nat×Acc)->Env->Env
 |[],Γ=>Γ
 |(t,_)::l,Γ=>del t (Eb l Γ)
def ab.room(h:ab)(k:Nat):ab:=⟨h.t,h.n+k⟩
@[simp] theorem ab.Xc (h:ab) (k b:Nat):(h.room k).get b=h.get b:=rfl
@[simp] theorem ab.N6 (h:ab) (k:Nat):(h.room k).n=h.n+k:=rfl
abbrev pP:=List (Nat×Nat×ab)
structure lA where
 env:List ad
 d:List cb
 q:bU
 h:ab
 bu:pP
def A6(P:Program)(need:Nat)(ops:Array Oper)(n:Nat)(env:List ad)(Γ:Env)(s:DStep):Option (Option (ad×Bool)):=match k6 P need ops s.loc s.o with
 |none=>some none
 |some (a,b)=>match pO n env Γ a with
  |some v=>some (some (v,b))
  |none=>none
def wm(s:DStep):pP->Bool
 |[]=>true
 |(e,_,_)::_=>Nat.testBit s.fV e
def N7(P:Program)(t:TypeId)(l c:ad)(b:Nat):Option (ad×dQ):=match P.underlying t,fe l,fe c with
 |some (.slice e),some l,some c=>match P.info? e,eT P e with
  |some i,some z=>match decide (l<=c)&&Nat.ble (c*(i.bytes+1)) 1099511627776&&Nat.beq z.cells.length i.size,(if c*i.size=0 then[] else gm c z.cells) with
   |true,cs=>match cs.all ad.de with
    |true=>some (.slice b 0 l (.exact c),.cells cs e .own 0 0)
    |false=>none
   |_,_=>none
  |_,_=>none
 |_,_,_=>none
def N8(P:Program)(op:Op)(g:Operand->ad)(b:Nat)(v:ad)(o:dQ):Prop:=match op with
 |.makeSlice t l c=>N7 P t (g l) (g c) b=some (v,o)
 |_=>False
theorem N9{P:Program}{op:Op}{g:Operand->ad}{b:Nat}{v:ad}{o:dQ}(h:N8 P op g b v o):lN P op g b=some (v,o):=by
 cases op<;>first|exact h|exact absurd h id
def N_(P:Program)(gd:Option (ad×Bool))(s:DStep)(g:Operand->ad)(b:Nat)(st:lA)(al:List Hint):mT (ih lA):=
 match gd with
 |none=>match al with
  |.W8 v o::al=>.dn ⟨⟨v::st.env,st.d,st.q,st.h.set b (some o),st.bu⟩,[N8 P s.o.op g b v o],al⟩
  |al=>match lN P s.o.op g b with
   |some (v,o)=>.dn ⟨⟨v::st.env,st.d,st.q,st.h.set b (some o),st.bu⟩,[],al⟩
   |none=>.stop ("alloc " ++s.o.pos) none
 |some (.bool x,c)=>match al with
  |.b y::al=>match y==c with
   |true=>match lN P s.o.op g b with
    |some (v,o)=>.dn ⟨⟨v::st.env,st.d,st.q,st.h.set b (some o),st.bu⟩,[x=y],al⟩
    |none=>.stop ("alloc " ++s.o.pos) none
   |false=>.dn ⟨⟨.aR []::st.env,st.d,st.q,st.h,st.bu⟩,[x=y],al⟩
  |_=>.stop ("guard " ++s.o.pos) (some x)
 |some (.aR [],_)=>.dn ⟨⟨.aR []::st.env,st.d,st.q,st.h,st.bu⟩,[],al⟩
 |_=>.stop ("guard of what " ++s.o.pos) none
def Ec(P:Program)(need:Nat)(inR:Bool)(call:aW)(ops:Array Oper)(Γ:Env)(c2:Nat)(s:DStep)(st:lA)(al:List Hint):mT (ih lA):=
 match yn P need s.i st.env Γ s.loc s.o with
 |false=>.stop ("an operand " ++s.o.pos) none
 |true=>match A6 P need ops s.i st.env Γ s with
  |none=>.stop ("guard " ++s.o.pos) none
  |some gd=>match kindOf P s.o.op with
   |.alloc=>N_ P gd s (mU P need s.i st.env Γ s.loc) (c2+s.i) st al
   |.pure=>match ym P inR call gd s.o (mU P need s.i st.env Γ s.loc) st.d st.q st.h al with
    |.dn ⟨.ok v _ _ _,cs,en⟩=>.dn ⟨⟨v::st.env,st.d,st.q,st.h,st.bu⟩,cs,en⟩
    |.dn ⟨.cw _ _ _ _,_,_⟩=>.stop ("a panic " ++s.o.pos) none
    |.stop w x=>.stop w x
   |.e3=>match wm s st.bu with
    |false=>.stop ("order " ++s.o.pos) none
    |true=>match ym P inR call gd s.o (mU P need s.i st.env Γ s.loc) st.d st.q st.h al with
     |.dn ⟨.ok v d' br aw,cs,en⟩=>.dn ⟨⟨v::st.env,d',br,aw,(s.i,s.fV,st.h)::st.bu⟩,cs,en⟩
     |.dn ⟨.cw _ _ _ _,_,_⟩=>.stop ("a panic " ++s.o.pos) none
     |.stop w x=>.stop w x
def Ed(P:Program)(need:Nat)(inR:Bool)(call:aW)(ops:Array Oper)(Γ:Env)(c2:Nat):List DStep->lA->List Hint->mT (ih lA)
 |[],st,al=>.dn ⟨st,[],al⟩
 |s::rest,st,al=>match Ec P need inR call ops Γ c2 s st al with
  |.dn ⟨cg,cs,en⟩=>match Ed P need inR call ops Γ c2 rest cg en with
   |.dn ⟨y,b5,wk⟩=>.dn ⟨y,cs++b5,wk⟩
   |.stop w x=>.stop w x
  |.stop w x=>.stop w x
def HM(P:Program)(need:Nat)(inR:Bool)(call:aW)(ops:Array Oper)(Γ:Env)(s:DStep)(rest:List DStep)(st:lA)(al:List Hint):mT (ih (ad×lA)):=
 match yn P need s.i st.env Γ s.loc s.o with
 |false=>.stop ("an operand " ++s.o.pos) none
 |true=>match A6 P need ops s.i st.env Γ s with
  |none=>.stop ("guard " ++s.o.pos) none
  |some gd=>match kindOf P s.o.op with
   |.e3=>match wm s st.bu with
    |false=>.stop ("order " ++s.o.pos) none
    |true=>match ym P inR call gd s.o (mU P need s.i st.env Γ s.loc) st.d st.q st.h al with
     |.dn ⟨.cw v d' br aw,cs,en⟩=>match rest.all (λs'=>Nat.testBit s'.fV s.i) with
      |true=>.dn ⟨(v,⟨st.env,d',br,aw,(s.i,s.fV,st.h)::st.bu⟩),cs,en⟩
      |false=>.stop ("panic " ++s.o.pos) none
     |_=>.stop ("no panic " ++s.o.pos) none
   |_=>.stop ("no panic " ++s.o.pos) none
def Ee(P:Program)(need:Nat)(inR:Bool)(call:aW)(ops:Array Oper)(Γ:Env)(c2:Nat):List DStep->lA->List Hint->mT (ih (ad×lA))
 |[],_,_=>.stop "no panic" none
 |s::rest,st,al=>match HM P need inR call ops Γ s rest st al with
  |.dn y=>.dn y
  |.stop _ _=>match Ec P need inR call ops Γ c2 s st al with
   |.dn ⟨cg,cs,en⟩=>match Ee P need inR call ops Γ c2 rest cg en with
    |.dn ⟨y,b5,wk⟩=>.dn ⟨y,cs++b5,wk⟩
    |.stop w x=>.stop w x
   |.stop w x=>.stop w x
mutual
def ad.sound:ad->Bool
 |.bad=>false
 |.fn _ a b=>k_ a&&k_ b
 |.iface _ v=>v.sound
 |.agg l=>k_ l
 |.aR l=>k_ l
 |_=>true
def k_:List ad->Bool
 |[]=>true
 |a::l=>a.sound&&k_ l
end
def Oa(o:Oper)(g:Operand->ad):Option (Bool×ad×ad):=match o.op with
 |.pick c a b=>match g c with
  |.bool x=>some (x,g a,g b)
  |_=>none
 |_=>none
def isLen(o:Oper):Bool:=match o.op with
 |.call c=>match c.callee with
  |.builtin .len=>true
  |_=>false
 |_=>false
def A7(P:Program)(o:Oper)(g:Operand->ad)(h:ab)(v:ad):List Prop:=match Oa o g with
 |some (x,a,b)=>[v.sound=true,cond x a b=v]
 |none=>match isLen o with
  |true=>[v.sound=true,qG P o g h v]
  |false=>match HJ o g with
   |1=>[v.sound=true,qG P o g h v]
   |_=>match c7 P o g h with
    |.val v' _=>[v.sound=true,v'=v]
    |_=>[False]
def lookW(v:ad)(q p:Prop):Prop:=match v with
 |.aR []=>q
 |_=>p
def HN(P:Program)(need:Nat)(ops:Array Oper)(Γ:Env)(n:Nat)(env:List ad)(s:DStep)(v:ad)(h:ab):List Prop:=
 match yn P need n env Γ s.loc s.o,A6 P need ops n env Γ s with
 |true,some gd=>match gd with
  |none=>A7 P s.o (mU P need n env Γ s.loc) h v
  |some (.bool x,b)=>[lookW v ((x==b)=false) (dM (A7 P s.o (mU P need n env Γ s.loc) h v))]
  |some (.aR [],_)=>[]
  |_=>[False]
 |_,_=>[False]
def sY(s:DStep)(er:Option Nat)(bu:pP):Bool:=(match er with|none=>false|some e=>Nat.testBit s.fV e)||(match bu with|[]=>false|(_,m,_)::_=>Nat.testBit m s.i)
def yo(P:Program)(need:Nat)(ops:Array Oper)(Γ:Env)(n:Nat)(env:List ad)(s:DStep)(v:ad):Option Nat->ab->pP->List Prop
 |er,h,bu=>
  (match sY s er bu with
   |true=>[]
   |false=>HN P need ops Γ n env s v h)++
  (match bu with
   |[]=>[]
   |(e,_,aw)::rest=>yo P need ops Γ n env s v (some e) aw rest)
def Ef(P:Program)(need:Nat)(ops:Array Oper)(Γ:Env)(n:Nat)(env:List ad)(h:ab)(bu:pP):List DStep->List Prop
 |[]=>[]
 |s::rest=>(match Nat.blt s.i n,kindOf P s.o.op with
   |true,.pure=>yo P need ops Γ n env s ((nth (n-1-s.i) env).getD .bad) none h bu
   |_,_=>[])++Ef P need ops Γ n env h bu rest
def Eg(P:Program)(need:Nat)(ops:Array Oper)(Γ:Env)(n:Nat)(env:List ad)(last:Option Nat)(h:ab)(bu:pP):List DStep->List Prop
 |[]=>[]
 |s::rest=>(match Nat.blt s.i n,kindOf P s.o.op with
   |true,.pure=>yo P need ops Γ n env s ((nth (n-1-s.i) env).getD .bad) last h bu
   |_,_=>[])++Eg P need ops Γ n env last h bu rest
def HO(P:Program)(need:Nat)(inR:Bool)(call:aW)(ops:Array Oper)(st:bL)(al:List Hint):mT (ih (bW×bL)):=
 match Ee P need inR call ops st.Γ st.h.n (f_ ops.toList 0 [] []) ⟨[],st.d,st.q,st.h.room ops.size,[]⟩ al with
 |.dn ⟨(v,⟨env,d,q,h,(e,m,h0)::bu⟩),cs,en⟩=>.dn ⟨(.cw v,⟨Eb (kq ops.toList 0 []) st.Γ,d,q,h⟩),cs++Eg P need ops st.Γ env.length env (some e) h0 bu (f_ ops.toList 0 [] []),en⟩
 |.dn _=>.stop "no panic" none
 |.stop w x=>.stop w x
def HP(P:Program)(need:Nat)(inR:Bool)(call:aW)(ops:Array Oper)(st:bL)(al:List Hint):mT (ih (bW×bL)):=
 match Ed P need inR call ops st.Γ st.h.n (f_ ops.toList 0 [] []) ⟨[],st.d,st.q,st.h.room ops.size,[]⟩ al with
 |.dn ⟨⟨env,d,q,h,bu⟩,cs,en⟩=>.dn ⟨(.nrm,⟨sX need env.length env st.Γ (kq ops.toList 0 []) st.Γ,d,q,h⟩),cs++Ef P need ops st.Γ env.length env h bu (f_ ops.toList 0 [] []),en⟩
 |.stop _ _=>HO P need inR call ops st al
def dA(P:Program)(need:Nat)(rd:Option Nat)(call:aW)(c:Code)(st:bL)(e:bW)(cg:bL):Prop:=
 ∀r,Mod r st.Γ->∃r',et P need rd call c r st.d st.q st.h=.ok e r' cg.d cg.q cg.h/\Mod r' cg.Γ
def Xd(need:Nat)(Γ:Env)(loc:List (Nat×Acc)):oH->Option (bW×bL)
 |.ok env d q h=>some (.nrm,⟨sX need env.length env Γ loc Γ,d,q,h⟩)
 |.cw v d q h=>some (.cw v,⟨Eb loc Γ,d,q,h⟩)
 |.fail _=>none
def nj(P:Program)(need:Nat)(rd:Option Nat)(call:aW):Code->bL->List Hint->mT (ih (bW×bL))
 |.skip,st,al=>.dn ⟨(.nrm,st),[],al⟩
 |.label _,st,al=>.dn ⟨(.nrm,st),[],al⟩
 |.exit id,st,al=>.dn ⟨(.exit id,st),[],al⟩
 |.ret,st,al=>.dn ⟨(.ret,st),[],al⟩
 |.scope b,st,al=>nj P need rd call b st al
 |.region id ops draw,st,al=>
  match draw with
  |false=>
   match Ea P need rd.isSome call st.Γ (rq P need ops).steps [] st.d st.q st.h al with
   |.dn ⟨x,cs,en⟩=>match Xd need st.Γ (rq P need ops).loc x with
    |some r=>.dn ⟨r,cs,en⟩
    |none=>.stop "region" none
   |.stop w x=>.stop w x
  |true=>HP P need rd.isSome call ops st al
 |.seq a b,st,al=>match nj P need rd call a st al with
  |.dn ⟨(.nrm,cg),cs,en⟩=>match nj P need rd call b cg en with
   |.dn ⟨r,b5,wk⟩=>.dn ⟨r,cs++b5,wk⟩
   |.stop w x=>.stop w x
  |x=>x
 |.cond c a b,st,al=>match pO 0 [] st.Γ (da P need [] c) with
  |some (.bool x)=>match al with
   |.b true::al=>match nj P need rd call a st al with
    |.dn ⟨r,cs,en⟩=>.dn ⟨r,(x=true)::cs,en⟩
    |.stop w x=>.stop w x
   |.b false::al=>match nj P need rd call b st al with
    |.dn ⟨r,cs,en⟩=>.dn ⟨r,(x=false)::cs,en⟩
    |.stop w x=>.stop w x
   |_=>.stop "if" (some x)
  |_=>.stop "if what" none
 |.block id b,st,al=>match nj P need rd call b st al with
  |.dn ⟨(.exit i,cg),cs,en⟩=>match Nat.beq i id with
   |true=>.dn ⟨(.nrm,cg),cs,en⟩
   |false=>.dn ⟨(.exit i,cg),cs,en⟩
  |x=>x
 |.loop b,st,al=>match al with
  |.loop e cg::al=>.dn ⟨(e,cg),[dA P need rd call (.loop b) st e cg],al⟩
  |_=>.stop "loop" none
 |.rangeFunc f ps as cK,st,al=>match al with
  |.loop e cg::al=>.dn ⟨(e,cg),[dA P need rd call (.rangeFunc f ps as cK) st e cg],al⟩
  |_=>.stop "range over a function" none
 |.goto _,_,_=>.stop "goto" none
 |.refuse _,_,_=>.stop "refuse" none
theorem HQ:∀(p q:jG),p.num=q.num->p=q
 |.here,.here,_=>rfl
 |.here,.l q,h=>by simp only[jG.num] at h;omega
 |.here,.r q,h=>by simp only[jG.num] at h;omega
 |.l p,.here,h=>by simp only[jG.num] at h;omega
 |.r p,.here,h=>by simp only[jG.num] at h;omega
 |.l p,.l q,h=>by rw[HQ p q (by simp only[jG.num] at h;omega)]
 |.r p,.r q,h=>by rw[HQ p q (by simp only[jG.num] at h;omega)]
 |.l p,.r q,h=>by simp only[jG.num] at h;omega
 |.r p,.l q,h=>by simp only[jG.num] at h;omega
theorem Ob(p:jG):h_ p.num=p:=HQ _ _ (Dc _)
theorem wo(t u:Nat):(t=u/\Nat.beq t u=true)\/(t≠u/\Nat.beq t u=false):=by
 by_cases h:t=u
 · exact .inl ⟨h,by simp[h]⟩
 · refine .inr ⟨h,?_⟩
   cases ag:Nat.beq t u with
   |false=>rfl
   |true=>exact absurd (Nat.eq_of_beq_eq_true ag) h
theorem HR(t u:Nat):∀Γ:Env,eo t (del u Γ)=if t=u then none else eo t Γ
 |[]=>by simp[del,eo]
 |(x,v)::l=>by
  have bl:=HR t u l
  simp only[del]
  rcases wo u x with⟨e,ag⟩|⟨e,ag⟩
  · rw[ag];simp only[bl,eo]
    subst e
    rcases wo t u with⟨aE,fh⟩|⟨aE,fh⟩
    · rw[if_pos aE,if_pos aE]
    · rw[if_neg aE,if_neg aE,fh]
  · rw[ag];simp only[eo,bl]
    rcases wo t x with⟨aE,fh⟩|⟨aE,fh⟩
    · rw[fh];simp only[]
      rw[if_neg]
      intro h;exact e (by rw[<-h,aE])
    · rw[fh]
theorem Xe(t u:Nat)(v:ad)(Γ:Env):eo t (put u v Γ)=if t=u then some v else eo t Γ:=by
 simp only[put,eo]
 rcases wo t u with⟨e,ag⟩|⟨e,ag⟩
 · rw[ag,if_pos e]
 · rw[ag,if_neg e,HR,if_neg e]
theorem Mod.put{r:ba}{Γ:Env}(h:Mod r Γ)(t:Nat)(v:ad):Mod (r.set (h_ t) v) (put t v Γ):=by
 intro u x aa
 rw[Xe] at aa
 rw[ba.dx]
 by_cases e:u=t
 · rw[if_pos e] at aa⊢;cases aa;rfl
 · rw[if_neg e] at aa⊢;exact h u x aa
theorem Mod.del{r:ba}{Γ:Env}(h:Mod r Γ)(t:Nat)(v:ad):Mod (r.set (h_ t) v) (del t Γ):=by
 intro u x aa
 rw[HR] at aa
 rw[ba.dx]
 by_cases e:u=t
 · rw[if_pos e] at aa;cases aa
 · rw[if_neg e] at aa⊢;exact h u x aa
theorem HS(Γ:Env)(t:Nat)(v:ad):∀l,eo t (o0 Γ l)=some v->eo t Γ=some v
 |[],h=>by simp[o0,eo] at h
 |u::l,h=>by
  simp only[o0] at h
  cases hu:eo u Γ with
  |none=>rw[hu] at h;exact HS Γ t v l h
  |some x=>
   rw[hu] at h
   simp only[eo] at h
   rcases wo t u with⟨e,ag⟩|⟨e,ag⟩
   · rw[ag] at h;rw[e,hu];exact h
   · rw[ag] at h;exact HS Γ t v l h
theorem Mod.o0{r:ba}{Γ:Env}(h:Mod r Γ)(l:List Nat):Mod r (o0 Γ l):=λt v bm=>h t v (HS Γ t v l bm)
theorem wq{m:Nat}{env:List ad}{r:ba}{Γ:Env}(hm:Mod r Γ){a:Acc}{v:ad}(h:pO m env Γ a=some v):ep m env r a=v:=by
 cases a with
 |env j=>simp only[pO] at h;simp only[ep,h,Option.getD_some]
 |reg p=>simp only[pO] at h;simp only[ep];rw[<-Ob p];exact hm _ _ h
 |val x=>cases h;rfl
section
variable {P:Program}
theorem wu{o:Oper}{g:Operand->ad}{h:ab}{v:ad}(ah:qG P o g h v):c7 P o g h=.val v h:=by
 obtain⟨dst,op,type,pos,after,guard⟩:=o
 cases op<;>simp only[qG] at ah<;>(try exact ah.elim)
 case load t a=>
  split at ah
  · rename_i b off n ar aV aH
    simp only[c7,ar,aV,ah,gL]
  · rename_i b off n ar aV aH
    split at ah
    · simp only[c7,ar,aV,aH,ah]
    · exact ah.elim
  · exact ah.elim
 case binOp op t x y yt=>
  split at ah
  · rename_i k a cO b aa aZ
    split at ah
    · simp only[c7,aa,aZ,ec,ah,gL]
    · simp only[c7,aa,aZ,ec,ah,gL]
    · rename_i iB lR
      split at ah
      · rename_i ay
        have fl:k=cO:=of_decide_eq_true ay
        simp only[c7,aa,aZ,ec]
        cases op<;>first|exact absurd rfl iB|exact absurd rfl lR|(simp only[if_pos fl,ah,gL])
      · exact ah.elim
  · rename_i a b aa aZ
    simp only[c7,aa,aZ,ec,ah,gL]
  · simp only[c7,ah,gL]
 case unOp op t x=>
  split at ah
  · rename_i k n aa;simp only[c7,aa,ah]
  · rename_i k n aa;simp only[c7,aa,ah,gL]
  · exact ah.elim
 case slice t x lo hi mx=>simp only[c7,ah,gL]
 case index t x i=>
  split at ah
  · rename_i s n hu aa hi
    unfold hX at ah
    simp only[c7,hu,aa,hi]
    split at ah
    · rename_i gz ag;cases ah;simp only[ag]
    · cases ah
  · rename_i m e cs n hu aa hi
    split at ah
    · rename_i sz bJ
      simp only[c7,hu,aa,hi,bJ,if_pos ah.1,ah.2,gL]
    · exact ah.elim
  · exact ah.elim
 case indexAddr t x i=>
  split at ah
  · rename_i m e b off n hu aa hi
    split at ah
    · rename_i sz bJ
      simp only[c7,hu,aa,hi,bJ,if_pos ah.1,ah.2]
    · exact ah.elim
  · rename_i e b off m c n hu aa hi
    split at ah
    · rename_i sz bJ
      simp only[c7,hu,aa,hi,bJ,if_pos ah.1,ah.2]
    · exact ah.elim
  · exact ah.elim
 case lookup t x i ok=>simp only[c7,ah,gL]
 case entry it=>simp only[c7,ah,gL]
 case convert src dst x=>simp only[c7,ah]
 case call c=>
  split at ah
  · rename_i x t kQ iQ bm;simp only[c7,kQ,iQ,jH,bm,ah,gL]
  · rename_i x t kQ iQ bm;simp only[c7,kQ,iQ,jH,bm,ah,gL]
  · rename_i x l _ kQ iQ;simp only[c7,kQ,iQ,jH,ah,gL]
  · rename_i x l _ kQ iQ;simp only[c7,kQ,iQ,jH,ah,gL]
  · rename_i x t kQ iQ bm
    simp only[c7,kQ,iQ]
    simp only[jH,bm] at ah⊢
    exact ah
  · exact ah.elim
theorem Oc:∀(n:Nat) (cs b5:List ad),gD n [ad.bad] cs=some b5->False
 |0,[],_,h=>by simp[gD] at h
 |0,_::_,_,h=>by simp[gD,ad.de] at h
 |_+1,[],_,h=>by simp[gD] at h
 |n+1,c::cs,b5,h=>by
  simp only[gD] at h
  split at h
  · rename_i r ao;exact Oc n cs r ao
  · cases h
theorem Xf{h aw:ab}{b off:Nat}(al:bg.storeCells h b off (ad.cells .bad)=some aw):False:=by
 unfold bg.storeCells at al
 split at al
 · split at al
   · split at al
     · rename_i a0;exact Oc _ _ _ a0
     · cases al
   · cases al
 · cases al
theorem HT{o:Oper}{g:Operand->ad}{h aw:ab}{v:ad}(ah:yl P o g h v aw):c7 P o g h=.val v aw:=by
 obtain⟨dst,op,type,pos,after,guard⟩:=o
 cases op<;>simp only[yl] at ah<;>(try exact ah.elim)
 case store t a x=>
  split at ah
  · rename_i b off ar
    obtain⟨I,ae,rfl⟩:=ah
    simp only[c7,ar]
    rw[I]
    have ag:g x≠ .bad:=λag=>by
     rw[ag] at ae
     exact Xf ae
    cases eU:g x<;>first|exact absurd eU ag|(rw[eU] at ae;simp[ae,sq])
  · exact ah.elim
 case convert src dst x=>simp only[c7,ah]
 case mapUpdate t m k x=>obtain⟨I,rfl⟩:=ah;simp only[c7,I,sq]
 case insert t m k x=>obtain⟨I,rfl⟩:=ah;simp only[c7,I,sq]
 case mapEntry t m k=>simp only[c7,ah,na]
 case entryStore t m s x=>obtain⟨I,rfl⟩:=ah;simp only[c7,I,sq]
 case next it isStr=>simp only[c7,ah,na]
 case range t x=>
  split at ah
  · rename_i kt kI hu
    unfold D8 at ah
    split at ah
    · rename_i m ar
      split at ah
      · rename_i es c hm
        cases ah
        simp only[c7,hu,ar,hm]
      · cases ah
    · cases ah
  · exact ah.elim
 case makeSlice t l c=>
  unfold D7 at ah
  simp only[c7]
  split at ah
  · rename_i e nW c' hu aA uC
    split at ah
    · rename_i i z hi a7
      simp only[hu,aA,uC,hi,a7]
      split at ah
      · rename_i ma
        rw[if_pos ma]
        split at ah
        · rename_i b au aH;cases ah;simp only[aH]
        · cases ah
      · cases ah
    · cases ah
  · cases ah
 case call c=>
  split at ah
  · rename_i x y t kQ iQ bm;simp only[c7,kQ,iQ,jH,bm,ah,na]
  · rename_i x y t kQ iQ bm;simp only[c7,kQ,iQ,jH,bm,ah,na]
  · rename_i x t kQ iQ bm;simp only[c7,kQ,iQ,jH,bm,ah,na]
  · rename_i x y t kQ iQ bm;simp only[c7,kQ,iQ,jH,bm,ah,na]
  · rename_i x y t kQ iQ bm;simp only[c7,kQ,iQ,jH,bm,ah,na]
  · exact ah.elim
variable {inR:Bool} {call:aW}
theorem Od{pos:String}{f:ff}{args:List ad}{d:List cb}{q:bU}{h:ab}{al:List Hint}{y:ih o1}(aa:D9 call pos f args d q h al=.dn y)(ah:dM y.cs):z3 d q (call f args h)=y.res.res:=by
 unfold D9 at aa
 split at aa
 · cases aa;rw[ah.1];rfl
 · cases aa;rw[ah.1];rfl
 · cases aa
theorem Xg{o:Oper}{g:Operand->ad}{d:List cb}{q:bU}{h:ab}{al:List Hint}{y:ih o1}(aa:HK P inR call o g d q h al=.dn y)(ah:dM y.cs):
  eI P inR call none o g d q h=y.res.res:=by
 unfold HK at aa
 unfold eI
 simp only[fg]
 split at aa
 · cases aa
   rw[wu ah.1];rfl
 · split at aa
   · rename_i e x en bO
     cases aa
     have I:(g x).cells.all ad.de=true:=ah.1.h
     have he:o.op=.box e x:=by
      unfold N4 at bO
      split at bO
      · split at bO
        · rename_i he;cases bO;exact he
        · cases bO
      · cases bO
     have:c7 P o g h=.val (.ptr h.n 0) (h.push (.cells (g x).cells e .own 0 0)):=by
      unfold c7;rw[he];simp only[newRow,I]
     rw[this];rfl
   · split at aa
     · split at aa
       · rename_i gu;cases aa;rw[gu];rfl
       · rename_i gu;cases aa;rw[gu];rfl
       · rename_i gu;rw[gu];exact Od aa ah
       · rename_i gu;rw[gu];exact Od aa ah
       · rename_i z gu
         split at aa
         · cases aa
         · cases aa;rw[gu];rfl
       · rename_i gu
         split at aa
         · cases aa
         · split at aa
           · cases aa;rw[gu];rfl
           · cases aa;rw[gu];rfl
           · cases aa;rw[gu];rfl
       · cases aa
     · split at aa
       · cases aa
         rw[wu ah.1];rfl
       · cases aa
     · split at aa
       · cases aa
         rw[HT ah.1];rfl
       · cases aa
theorem Oe{o:Oper}{g:Operand->ad}{d:List cb}{q:bU}{h:ab}{al:List Hint}{y:ih o1}(aa:D_ P inR call o g d q h al=.dn y)(ah:dM y.cs):
  eI P inR call none o g d q h=y.res.res:=by
 unfold D_ at aa
 cases a0:HL o g d q h al with
 |none=>rw[a0] at aa;exact Xg aa ah
 |some z=>
  rw[a0] at aa
  simp only at aa
  subst aa
  unfold HL at a0
  split at a0
  · rename_i hj a b eM
    split at a0
    · rename_i gz ar
      split at a0
      · cases a0
        obtain⟨rfl,_⟩:=ah
        unfold eI c7
        simp[fg,eM,ar,o1.res]
      · cases a0
        obtain⟨rfl,_⟩:=ah
        unfold eI c7
        simp[fg,eM,ar,o1.res]
      · cases a0
    · cases a0
  · cases a0
theorem yp{gd:Option (ad×Bool)}(hw:fg gd=some true)(o:Oper)(g:Operand->ad)(d:List cb)(q:bU)(h:ab):eI P inR call gd o g d q h=eI P inR call none o g d q h:=by
 unfold eI
 rw[hw]
 rfl
theorem A8{gd:Option (ad×Bool)}(hw:fg gd=some false)(o:Oper)(g:Operand->ad)(d:List cb)(q:bU)(h:ab):eI P inR call gd o g d q h=.ok (.aR []) d q h:=by
 unfold eI
 simp only[hw]
theorem A9{gd:Option (ad×Bool)}{o:Oper}{g:Operand->ad}{d:List cb}{q:bU}{h:ab}{al:List Hint}{y:ih o1}(aa:ym P inR call gd o g d q h al=.dn y)(ah:dM y.cs):
  eI P inR call gd o g d q h=y.res.res:=by
 unfold ym at aa
 split at aa
 · exact Oe aa ah
 · rename_i ajD b
   split at aa
   · rename_i c iB
     split at aa
     · rename_i mK
       split at aa
       · rename_i s lx lR gp
         cases aa
         obtain⟨rfl,sZ⟩:=ah
         rw[yp (by simp only[fg];rw[mK])]
         exact(Oe gp sZ:)
       · cases aa
     · rename_i mK
       cases aa
       obtain⟨rfl,_⟩:=ah
       rw[A8 (by simp only[fg];rw[mK])];rfl
   · cases aa
 · cases aa
   rw[A8 rfl];rfl
 · cases aa
variable {need:Nat}
theorem Eh{m:Nat}{env:List ad}{r:ba}{Γ:Env}(hm:Mod r Γ){loc:List (Nat×Acc)}{o:Oper}(ay:yn P need m env Γ loc o=true):∀x∈o.op.operands,ep m env r (da P need loc x)=mU P need m env Γ loc x:=by
 intro x aa
 unfold yn at ay
 rw[List.all_eq_true] at ay
 have:=ay x (by simpa using aa)
 obtain⟨v,aI⟩:=Option.isSome_iff_exists.1 this
 unfold mU
 rw[aI,wq hm aI];rfl
theorem Of{r:ba}{Γ:Env}(hm:Mod r Γ):∀(l:List Step) (env:List ad) (d:List cb) (q:bU) (h:ab) (al:List Hint) (y:ih oH),Ea P need inR call Γ l env d q h al=.dn y->dM y.cs->
  jI P need inR call r l env d q h=y.res
 |[],env,d,q,h,al,y,aa,ah=>by cases aa;rfl
 |s::rest,env,d,q,h,al,y,aa,ah=>by
  simp only[Ea] at aa
  split at aa
  · cases aa
  · rename_i ay
    split at aa
    · cases aa
    · rename_i gd hC
      have key:∀z,eI P inR call gd s.o (mU P need s.m env Γ s.loc) d q h=z->jI P need inR call r (s::rest) env d q h=match z with
        |.ok v d' br aw=>jI P need inR call r rest (v::env) d' br aw
        |.cw v d' br aw=>.cw v d' br aw
        |.fail w=>.fail w:=λz a7=>by
       simp only[jI]
       rw[<-a7,<-we (Eh hm ay)]
       unfold N5 at hC
       cases Ht:s.guard with
       |none=>rw[Ht] at hC;cases hC;rfl
       |some p=>
        obtain⟨a,b⟩:=p
        rw[Ht] at hC
        simp only at hC
        cases aI:pO s.m env Γ a with
        |none=>rw[aI] at hC;cases hC
        |some v=>rw[aI] at hC;cases hC;simp only[wq hm aI];rfl
      split at aa
      · rename_i v d' br aw lx iB gP
        split at aa
        · rename_i z A_ lR pC
          cases aa
          obtain⟨aM,bf⟩:=dM.append ah
          have I:=A9 gP aM
          have ij:eI P inR call gd s.o (mU P need s.m env Γ s.loc) d q h=.ok v d' br aw:=I
          rw[key _ ij]
          exact(Of hm rest (v::env) d' br aw iB _ pC bf:)
        · cases aa
      · rename_i v d' br aw lx iB gP
        cases aa
        have I:=A9 gP ah
        have ij:eI P inR call gd s.o (mU P need s.m env Γ s.loc) d q h=.cw v d' br aw:=I
        rw[key _ ij]
      · cases aa
theorem Ei{m:Nat}{env:List ad}{gE:ba}{hF:Env}(hm:Mod gE hF):∀(l:List (Nat×Acc)) (r:ba) (Γ:Env),Mod r Γ->Mod (rr need m env gE l r) (sX need m env hF l Γ)
 |[],r,Γ,h=>h
 |(t,a)::l,r,Γ,h=>by
  have bl:=Ei (m:=m) (env:=env) hm l r Γ h
  simp only[rr,sX]
  cases Nat.testBit need t with
  |false=>exact bl
  |true=>
   simp only
   cases ar:pO m env hF a with
   |some v=>simp only;rw[wq hm ar];exact bl.put t v
   |none=>simp only;exact bl.del t _
theorem HU:∀(l:List (Nat×Acc)) (r:ba) (Γ:Env),Mod r Γ->Mod (xP l r) (Eb l Γ)
 |[],r,Γ,h=>h
 |(t,a)::l,r,Γ,h=>(HU l r Γ h).del t _
mutual
theorem wv:∀v:ad,v.sound=true->ad.beq v v=true
 |.bool b,_=>by simp[ad.beq]
 |.int k n,_=>by simp[ad.beq,fc]
 |.str s,_=>by simp[ad.beq,nP]
 |.aX,_=>rfl
 |.ptr a i,_=>by simp[ad.beq]
 |.aP,_=>rfl
 |.slice a i n c,_=>by cases c<;>simp[ad.beq,ct.beq]
 |.jw,_=>rfl
 |.map a,_=>by simp[ad.beq]
 |.gW,_=>rfl
 |.fn f a b,h=>by
  simp only[ad.sound,Bool.and_eq_true] at h
  simp only[ad.beq,Ba a h.1,Ba b h.2,Bool.and_true]
  simp
 |.eb a,_=>by simp[ad.beq]
 |.fU,_=>rfl
 |.iface t v,h=>by
  simp only[ad.sound] at h
  simp only[ad.beq,wv v h,Bool.and_true]
  simp
 |.agg l,h=>by
  simp only[ad.sound] at h
  simp only[ad.beq,Ba l h]
 |.aR l,h=>by
  simp only[ad.sound] at h
  simp only[ad.beq,Ba l h]
 |.bad,h=>by simp[ad.sound] at h
theorem Ba:∀l:List ad,k_ l=true->ad.px l l=true
 |[],_=>rfl
 |a::l,h=>by
  simp only[k_,Bool.and_eq_true] at h
  simp only[ad.px,wv a h.1,Ba l h.2,Bool.and_true]
end
theorem HV{ops:Array Oper}{r:ba}{Γ:Env}(hm:Mod r Γ){n:Nat}{env:List ad}{s:DStep}{gd:Option (ad×Bool)}(h:A6 P need ops n env Γ s=some gd):h1 P need ops r n env s=gd:=by
 unfold A6 at h
 unfold h1
 split at h
 · rename_i ar;rw[ar];cases h;rfl
 · rename_i a b ar
   rw[ar]
   split at h
   · rename_i v aI
     cases h
     simp only[wq hm aI]
   · cases h
def Xh(P:Program)(need:Nat)(inR:Bool)(call:aW)(ops:Array Oper)(r:ba)(c2:Nat)(s:DStep)(st cg:lA):Prop:=
 ∀rest,hq P need inR call ops r c2 (s::rest) st.env st.d st.q st.h st.bu=hq P need inR call ops r c2 rest cg.env cg.d cg.q cg.h cg.bu
theorem Og{ops:Array Oper}{r:ba}{Γ:Env}(hm:Mod r Γ){c2:Nat}{s:DStep}{st:lA}{al:List Hint}{y:ih lA}(aa:Ec P need inR call ops Γ c2 s st al=.dn y)(ah:dM y.cs):Xh P need inR call ops r c2 s st y.res:=by
 intro rest
 unfold Ec at aa
 split at aa
 · cases aa
 · rename_i ay
   have ar:=Eh hm ay
   split at aa
   · cases aa
   · rename_i gd hC
     have ai:=HV hm hC
     split at aa
     · rename_i ik
       have aV:=AR (P:=P) (o:=s.o.op) (b:=c2+s.i) ar
       simp only[hq,ik,ai]
       rw[aV]
       unfold N_ at aa
       split at aa
       · split at aa
         · cases aa
           have g1:=N9 ah.1
           simp only[fg,g1]
         · split at aa
           · rename_i v o g1
             cases aa
             simp only[fg,g1]
           · cases aa
       · split at aa
         · rename_i x c _ jP iB
           split at aa
           · rename_i HW
             split at aa
             · rename_i v o g1
               cases aa
               obtain⟨rfl,_⟩:=ah
               simp only[fg,HW,g1]
             · cases aa
           · rename_i HW
             cases aa
             obtain⟨rfl,_⟩:=ah
             simp only[fg,HW]
         · cases aa
       · cases aa
         simp only[fg]
       · cases aa
     · rename_i ik
       simp only[hq,ik,ai]
       rw[we ar]
       split at aa
       · rename_i v d' br aw lx iB gP
         cases aa
         have I:=A9 gP ah
         have ij:eI P inR call gd s.o (mU P need s.i st.env Γ s.loc) st.d st.q st.h=.ok v d' br aw:=I
         rw[ij]
       · cases aa
       · cases aa
     · rename_i ik
       split at aa
       · cases aa
       · rename_i ni
         simp only[hq,ik,ai]
         rw[we ar]
         split at aa
         · rename_i v d' br aw lx iB gP
           cases aa
           have I:=A9 gP ah
           have ij:eI P inR call gd s.o (mU P need s.i st.env Γ s.loc) st.d st.q st.h=.ok v d' br aw:=I
           rw[ij]
           cases cL:st.bu with
           |nil=>rfl
           |cons a l=>
            obtain⟨e,m,au⟩:=a
            rw[cL] at ni
            simp only[wm] at ni
            simp only[ni]
         · cases aa
         · cases aa
theorem Oh{ops:Array Oper}{r:ba}{Γ:Env}(hm:Mod r Γ){c2:Nat}:∀(l:List DStep) (st:lA) (al:List Hint) (y:ih lA),Ed P need inR call ops Γ c2 l st al=.dn y->dM y.cs->
  hq P need inR call ops r c2 l st.env st.d st.q st.h st.bu=.ok y.res.env y.res.d y.res.q y.res.h y.res.bu
 |[],st,al,y,aa,ah=>by cases aa;rfl
 |s::rest,st,al,y,aa,ah=>by
  simp only[Ed] at aa
  split at aa
  · rename_i st1 lx iB I
    split at aa
    · rename_i jQ A_ lR ae
      cases aa
      obtain⟨aM,bf⟩:=dM.append ah
      rw[Og hm I aM rest]
      exact(Oh hm rest st1 iB ⟨jQ,A_,lR⟩ ae bf:)
    · cases aa
  · cases aa
theorem Xi{o:Oper}{g:Operand->ad}{h:ab}{v:ad}(ah:dM (A7 P o g h v)):∃v' aw,c7 P o g h=.val v' aw/\ad.beq v' v=true:=by
 unfold A7 at ah
 split at ah
 · rename_i x a b a0
   obtain⟨I,ae,_⟩:=ah
   refine⟨v,h,?_,wv v I⟩
   unfold Oa at a0
   split at a0
   · rename_i c cW hP bc
     split at a0
     · rename_i Hh Ej
       cases a0
       cases x<;>simp only[c7,bc,Ej]<;>rw[<-ae]<;>rfl
     · cases a0
   · cases a0
 split at ah
 · exact⟨v,h,wu ah.2.1,wv v ah.1⟩
 split at ah
 · exact⟨v,h,wu ah.2.1,wv v ah.1⟩
 · split at ah
   · rename_i v' aw he
     obtain⟨I,rfl,_⟩:=ah
     exact⟨v',aw,he,wv v' I⟩
   · exact ah.1.elim
theorem Oi{ops:Array Oper}{r:ba}{Γ:Env}(hm:Mod r Γ){n:Nat}{env:List ad}{s:DStep}{v:ad}{h:ab}(ah:dM (HN P need ops Γ n env s v h)):nM P need ops r n env s v h=true:=by
 unfold HN at ah
 unfold nM
 split at ah
 · rename_i gd ay hC
   rw[HV hm hC]
   have ar:=Eh hm ay
   have key:dM (A7 P s.o (mU P need n env Γ s.loc) h v)->(match c7 P s.o (λx=>ep n env r (da P need s.loc x)) h with
     |.val v' _=>ad.beq v' v
     |_=>false)=true:=λaA=>by
    rw[AQ s.o h ar]
    obtain⟨v',aw,aG,aE⟩:=Xi aA
    rw[aG];exact aE
   split at ah
   · simp only[fg];exact key ah
   · rename_i x b
     simp only[fg]
     obtain⟨ah,_⟩:=ah
     unfold lookW at ah
     split at ah
     · rw[ah]
     · cases sJ:(x==b) with
       |false=>rfl
       |true=>exact key ah
   · rfl
   · exact ah.1.elim
 · exact ah.1.elim
theorem Ek{ops:Array Oper}{r:ba}{n:Nat}{env:List ad}{s:DStep}{v:ad}(er:Option Nat)(h:ab)(bu:pP):mI P need ops r n env s v er h bu=
  ((match sY s er bu with|true=>true|false=>nM P need ops r n env s v h)&&(match bu with|[]=>true|(e,_,aw)::rest=>mI P need ops r n env s v (some e) aw rest)):=by
 cases bu<;>(rw[mI.eq_def];rfl)
theorem HX{ops:Array Oper}{r:ba}{Γ:Env}(hm:Mod r Γ){n:Nat}{env:List ad}{s:DStep}{v:ad}:∀(bu:pP) (er:Option Nat) (h:ab),dM (yo P need ops Γ n env s v er h bu)->mI P need ops r n env s v er h bu=true
 |[],er,h,ah=>by
  rw[Ek]
  unfold yo at ah
  obtain⟨aM,_⟩:=dM.append ah
  cases ag:sY s er [] with
  |true=>rfl
  |false=>rw[ag] at aM;simp only[Bool.and_true];exact Oi hm aM
 |(e,m,aw)::rest,er,h,ah=>by
  rw[Ek]
  unfold yo at ah
  obtain⟨aM,bf⟩:=dM.append ah
  have bl:=HX hm rest (some e) aw bf
  cases ag:sY s er ((e,m,aw)::rest) with
  |true=>simp only[Bool.true_and];exact bl
  |false=>
   rw[ag] at aM
   simp only
   rw[Oi hm aM,Bool.true_and];exact bl
theorem Oj{ops:Array Oper}{r:ba}{Γ:Env}(hm:Mod r Γ){n:Nat}{env:List ad}{h:ab}{bu:pP}:∀(l:List DStep),dM (Ef P need ops Γ n env h bu l)->nd P need ops r n env none h bu l=true
 |[],_=>rfl
 |s::rest,ah=>by
  simp only[Ef] at ah
  obtain⟨aM,bf⟩:=dM.append ah
  simp only[nd]
  rw[Oj hm rest bf,Bool.and_true]
  cases I:Nat.blt s.i n with
  |false=>rfl
  |true=>
   rw[I] at aM
   cases ae:kindOf P s.o.op with
   |pure=>rw[ae] at aM;exact HX hm bu none h aM
   |alloc=>rfl
   |e3=>rfl
theorem Xj{ops:Array Oper}{r:ba}{Γ:Env}(hm:Mod r Γ){c2:Nat}{s:DStep}{rest:List DStep}{st:lA}{al:List Hint}{y:ih (ad×lA)}(aa:HM P need inR call ops Γ s rest st al=.dn y)(ah:dM y.cs):
  hq P need inR call ops r c2 (s::rest) st.env st.d st.q st.h st.bu=.cw y.res.1 y.res.2.env y.res.2.d y.res.2.q y.res.2.h y.res.2.bu:=by
 unfold HM at aa
 split at aa
 · cases aa
 · rename_i ay
   have ar:=Eh hm ay
   split at aa
   · cases aa
   · rename_i gd hC
     have ai:=HV hm hC
     split at aa
     · rename_i ik
       split at aa
       · cases aa
       · rename_i ni
         simp only[hq,ik,ai]
         rw[we ar]
         split at aa
         · rename_i v d' br aw lx iB gP
           split at aa
           · rename_i eL
             cases aa
             have I:=A9 gP ah
             have ij:eI P inR call gd s.o (mU P need s.i st.env Γ s.loc) st.d st.q st.h=.cw v d' br aw:=I
             rw[ij]
             cases cL:st.bu with
             |nil=>simp only[eL]
             |cons a l=>
              obtain⟨e,m,au⟩:=a
              rw[cL] at ni
              simp only[wm] at ni
              simp only[ni,eL]
           · cases aa
         · cases aa
     · cases aa
theorem Ok{ops:Array Oper}{r:ba}{Γ:Env}(hm:Mod r Γ){c2:Nat}:∀(l:List DStep) (st:lA) (al:List Hint) (y:ih (ad×lA)),Ee P need inR call ops Γ c2 l st al=.dn y->dM y.cs->
  hq P need inR call ops r c2 l st.env st.d st.q st.h st.bu=.cw y.res.1 y.res.2.env y.res.2.d y.res.2.q y.res.2.h y.res.2.bu
 |[],st,al,y,aa,ah=>by cases aa
 |s::rest,st,al,y,aa,ah=>by
  simp only[Ee] at aa
  split at aa
  · rename_i jP I
    cases aa
    exact Xj hm I ah
  · split at aa
    · rename_i st1 lx iB I
      split at aa
      · rename_i jQ A_ lR ae
        cases aa
        obtain⟨aM,bf⟩:=dM.append ah
        rw[Og hm I aM rest]
        exact(Ok hm rest st1 iB ⟨jQ,A_,lR⟩ ae bf:)
      · cases aa
    · cases aa
theorem Ol{ops:Array Oper}{r:ba}{Γ:Env}(hm:Mod r Γ){n:Nat}{env:List ad}{last:Option Nat}{h:ab}{bu:pP}:∀(l:List DStep),dM (Eg P need ops Γ n env last h bu l)->nd P need ops r n env last h bu l=true
 |[],_=>rfl
 |s::rest,ah=>by
  simp only[Eg] at ah
  obtain⟨aM,bf⟩:=dM.append ah
  simp only[nd]
  rw[Ol hm rest bf,Bool.and_true]
  cases I:Nat.blt s.i n with
  |false=>rfl
  |true=>
   rw[I] at aM
   cases ae:kindOf P s.o.op with
   |pure=>rw[ae] at aM;exact HX hm bu last h aM
   |alloc=>rfl
   |e3=>rfl
theorem Xk{id:Nat}{ops:Array Oper}{rd:Option Nat}{st:bL}{al:List Hint}{y:ih (bW×bL)}(aa:HO P need rd.isSome call ops st al=.dn y)(ah:dM y.cs):dA P need rd call (.region id ops true) st y.res.1 y.res.2:=by
 unfold HO at aa
 split at aa
 · rename_i v env d q h e m h0 bu lx iB ai
   cases aa
   obtain⟨aM,bf⟩:=dM.append ah
   intro r hm
   have I:=Ok hm _ _ _ _ ai aM
   have ae:=Ol hm _ bf
   simp only at I
   refine⟨_,?_,HU _ _ _ hm⟩
   have ij:hq P need rd.isSome call ops r st.h.n (f_ ops.toList 0 [] []) [] st.d st.q ⟨st.h.t,st.h.n+ops.size⟩ []=.cw v env d q h ((e,m,h0)::bu):=I
   simp only[et,vD,ij,ae,oI]
 · cases aa
 · cases aa
theorem Xl{id:Nat}{ops:Array Oper}{rd:Option Nat}{st:bL}{al:List Hint}{y:ih (bW×bL)}(aa:HP P need rd.isSome call ops st al=.dn y)(ah:dM y.cs):dA P need rd call (.region id ops true) st y.res.1 y.res.2:=by
 unfold HP at aa
 split at aa
 · rename_i env d q h bu lx iB ai
   cases aa
   obtain⟨aM,bf⟩:=dM.append ah
   intro r hm
   have I:=Oh hm _ _ _ _ ai aM
   have ae:=Oj hm _ bf
   simp only at I
   refine⟨_,?_,Ei hm _ _ _ hm⟩
   have ij:hq P need rd.isSome call ops r st.h.n (f_ ops.toList 0 [] []) [] st.d st.q ⟨st.h.t,st.h.n+ops.size⟩ []=.ok env d q h bu:=I
   simp only[et,vD,ij,ae,oI]
 · exact Xk aa ah
variable {rd:Option Nat}
theorem rN:∀(c:Code) (st:bL) (al:List Hint) (y:ih (bW×bL)),nj P need rd call c st al=.dn y->dM y.cs->dA P need rd call c st y.res.1 y.res.2
 |.skip,st,al,y,aa,ah=>by cases aa;exactλr ao=>⟨r,rfl,ao⟩
 |.label _,st,al,y,aa,ah=>by cases aa;exactλr ao=>⟨r,rfl,ao⟩
 |.exit id,st,al,y,aa,ah=>by cases aa;exactλr ao=>⟨r,rfl,ao⟩
 |.ret,st,al,y,aa,ah=>by cases aa;exactλr ao=>⟨r,rfl,ao⟩
 |.scope b,st,al,y,aa,ah=>rN b st al y aa ah
 |.region id ops draw,st,al,y,aa,ah=>by
  simp only[nj] at aa
  cases draw with
  |true=>exact Xl aa ah
  |false=>
   simp only at aa
   split at aa
   · rename_i x lx iB cL
     split at aa
     · rename_i r1 HY
       cases aa
       intro r ao
       have I:=Of ao _ _ _ _ _ _ _ cL ah
       simp only at I
       simp only[et,I]
       cases x with
       |ok env d q h=>cases HY;exact⟨_,rfl,Ei ao _ _ _ ao⟩
       |cw v d q h=>cases HY;exact⟨_,rfl,HU _ _ _ ao⟩
       |fail w=>cases HY
     · cases aa
   · cases aa
 |.seq a b,st,al,y,aa,ah=>by
  simp only[nj] at aa
  split at aa
  · rename_i st1 lx iB aV
    split at aa
    · rename_i r2 A_ lR ag
      cases aa
      obtain⟨aM,bf⟩:=dM.append ah
      intro r ao
      obtain⟨r1,I,a3⟩:=rN a st al _ aV aM r ao
      obtain⟨r2,ae,b7⟩:=rN b st1 iB _ ag bf r1 a3
      exact⟨r2,by simp only at I ae;simp only[et,I,sr,ae],b7⟩
    · cases aa
  · rename_i dr
    intro r ao
    obtain⟨r1,I,a3⟩:=rN a st al y aa ah r ao
    refine⟨r1,?_,a3⟩
    simp only[et,I]
    refine vZ (λdc=>?_)
    obtain⟨⟨aG,st1⟩,lx,iB⟩:=y
    simp only at dc
    subst dc
    exact dr _ _ _ aa
 |.cond c a b,st,al,y,aa,ah=>by
  simp only[nj] at aa
  split at aa
  · rename_i x ar
    split at aa
    · split at aa
      · rename_i r1 lx iB aV
        cases aa
        obtain⟨rfl,aM⟩:=ah
        intro r ao
        obtain⟨r1,I,a3⟩:=rN a st _ _ aV aM r ao
        exact⟨r1,by simp only at I;simp only[et,wq ao ar,I],a3⟩
      · cases aa
    · split at aa
      · rename_i r1 lx iB aV
        cases aa
        obtain⟨rfl,aM⟩:=ah
        intro r ao
        obtain⟨r1,I,a3⟩:=rN b st _ _ aV aM r ao
        exact⟨r1,by simp only at I;simp only[et,wq ao ar,I],a3⟩
      · cases aa
    · cases aa
  · cases aa
 |.block id b,st,al,y,aa,ah=>by
  simp only[nj] at aa
  split at aa
  · rename_i i st1 lx iB ag
    split at aa
    · rename_i hi
      cases aa
      obtain rfl:=Nat.eq_of_beq_eq_true hi
      intro r ao
      obtain⟨r1,I,a3⟩:=rN b st al _ ag ah r ao
      exact⟨r1,by simp only at I;simp only[et,I,if_true],a3⟩
    · rename_i hi
      cases aa
      intro r ao
      obtain⟨r1,I,a3⟩:=rN b st al _ ag ah r ao
      have dr:¬i=id:=by intro dc;subst dc;simp at hi
      exact⟨r1,by simp only at I;simp only[et,I,if_neg dr],a3⟩
  · rename_i dr
    intro r ao
    obtain⟨r1,I,a3⟩:=rN b st al y aa ah r ao
    refine⟨r1,?_,a3⟩
    obtain⟨⟨aG,st1⟩,lx,iB⟩:=y
    simp only at I
    simp only[et,I]
    cases aG<;>first|rfl|exact absurd aa (dr _ _ _ _)
 |.loop b,st,al,y,aa,ah=>by
  simp only[nj] at aa
  split at aa
  · cases aa;exact ah.1
  · cases aa
 |.rangeFunc f ps as cK,st,al,y,aa,ah=>by
  simp only[nj] at aa
  split at aa
  · cases aa;exact ah.1
  · cases aa
 |.goto _,st,al,y,aa,ah=>by cases aa
 |.refuse _,st,al,y,aa,ah=>by cases aa
end
theorem Om{z:Bool}(h:z=true):(Decidable.rec (motive:=λ_=>Bool) (λh=>(λx=>false) h) (λh=>(λx=>true) h) (instDecidableEqBool z false):Bool)=false:=by subst h;rfl
open Go
def sub:Code->List Nat->Code
 |c,[]=>c
 |.seq a _,0::l=>sub a l
 |.seq _ b,_::l=>sub b l
 |.cond _ a _,0::l=>sub a l
 |.cond _ _ b,_::l=>sub b l
 |.block _ b,_::l=>sub b l
 |.loop b,_::l=>sub b l
 |.scope b,_::l=>sub b l
 |.rangeFunc _ _ a _,0::l=>sub a l
 |.rangeFunc _ _ _ b,_::l=>sub b l
 |c,_::_=>c
def fD(fn:Func):Code:=fn.body.getD .skip
def bY:Env->Env->Prop
 |[],_=>True
 |(t,v)::l,Γ=>eo t Γ=some v/\bY l Γ
theorem bY.ok:∀{Γ2 Γ:Env},bY Γ2 Γ->∀t v,eo t Γ2=some v->eo t Γ=some v
 |[],Γ,_,t,v,h=>by simp[eo] at h
 |(u,x)::l,Γ,⟨I,ae⟩,t,v,h=>by
  simp only[eo] at h
  rcases wo t u with⟨e,ag⟩|⟨e,ag⟩
  · rw[ag] at h;cases h;rw[e];exact I
  · rw[ag] at h;exact bY.ok ae t v h
theorem Mod.sub{r:ba}{Γ Γ2:Env}(h:Mod r Γ)(al:bY Γ2 Γ):Mod r Γ2:=λt v bm=>h t v (al.ok t v bm)
section
variable {P:Program} {need:Nat} {rd:Option Nat} {call:aW}
def El(bB:List Nat):mT (ih (bW×bL))->Option (ih (bW×bL))
 |.dn ⟨(e,⟨Γ,d,q,h⟩),cs,[]⟩=>some ⟨(e,⟨o0 Γ bB,d,q,h⟩),cs,[]⟩
 |_=>none
theorem Xm{c:Code}{st:bL}{al:List Hint}{e:bW}{cg:bL}{cs:List Prop}(bB:List Nat)(aa:El bB (nj P need rd call c st al)=some ⟨(e,cg),cs,[]⟩)(ah:dM cs):dA P need rd call c st e cg:=by
 unfold El at aa
 split at aa
 · rename_i aG iC d1 a8 I lx Xn
   cases aa
   intro r ao
   obtain⟨r1,I,a3⟩:=rN c st al _ Xn ah r ao
   exact⟨r1,I,a3.o0 bB⟩
 · cases aa
theorem dA.pre{c:Code}{st st1 cg:bL}{e:bW}(h:dA P need rd call c st e cg)(al:bY st.Γ st1.Γ)(ai:st1.d=st.d)(aK:st1.q=st.q)(au:st1.h=st.h):dA P need rd call c st1 e cg:=by
 intro r ao
 obtain⟨r1,I,a3⟩:=h r (ao.sub al)
 exact⟨r1,by rw[ai,aK,au];exact I,a3⟩
theorem dA.post{c:Code}{st cg:bL}{Γ2:Env}{e:bW}(h:dA P need rd call c st e cg)(al:bY Γ2 cg.Γ):dA P need rd call c st e {cg with Γ:=Γ2}:=by
 intro r ao
 obtain⟨r1,I,a3⟩:=h r ao
 exact⟨r1,I,a3.sub al⟩
def qH(P:Program)(need:Nat)(rd:Option Nat)(call:aW)(b:Code)(n:Nat)(st:bL)(e:bW)(cg:bL):Prop:=
 ∀r,Mod r st.Γ->∃r',ru (et P need rd call b) n r st.d st.q st.h=.ok e r' cg.d cg.q cg.h/\Mod r' cg.Γ
theorem qH.step{b:Code}{n:Nat}{st st1 cg:bL}{e:bW}(h:dA P need rd call b st .nrm st1)(ae:qH P need rd call b n st1 e cg):qH P need rd call b (n+1) st e cg:=by
 intro r ao
 obtain⟨r1,aG,a3⟩:=h r ao
 obtain⟨r2,aE,b7⟩:=ae r1 a3
 exact⟨r2,by simp only[ru,aG,sr,aE],b7⟩
theorem qH.exit{b:Code}{n:Nat}{st cg:bL}{e:bW}(h:dA P need rd call b st e cg)(he:e≠ .nrm):qH P need rd call b (n+1) st e cg:=by
 intro r ao
 obtain⟨r1,aG,a3⟩:=h r ao
 exact⟨r1,by simp only[ru,aG];exact vZ he,a3⟩
theorem HZ{f:ba->List cb->bU->ab->k5}:∀{n m:Nat},n<=m->∀{r d q h e r' d' br aw},ru f n r d q h=.ok e r' d' br aw->ru f m r d q h=.ok e r' d' br aw
 |0,_,_,_,_,_,_,_,_,_,_,_,h=>by cases h
 |n+1,0,hle,_,_,_,_,_,_,_,_,_,_=>by omega
 |n+1,m+1,hle,r,d,q,h,e,r',d',br,aw,aa=>by
  simp only[ru] at aa⊢
  cases hf:f r d q h with
  |fail w=>rw[hf] at aa;cases aa
  |ok aG r1 d1 a8 I=>
   rw[hf] at aa
   cases aG<;>simp only[sr] at aa⊢ <;>first|exact HZ (by omega) aa|exact aa
theorem qH.run{b:Code}{n:Nat}{st cg:bL}{e:bW}(h:qH P need rd call b n st e cg)(aH:n<=100000):dA P need rd call (.loop b) st e cg:=by
 intro r ao
 obtain⟨r1,aG,a3⟩:=h r ao
 exact⟨r1,by simp only[et];exact HZ aH aG,a3⟩
def n6:Nat->List ad->Env
 |_,[]=>[]
 |i,v::l=>(i,v)::n6 (i+1) l
theorem On(t:Nat)(v:ad):∀(l:List ad) (i:Nat),eo t (n6 i l)=some v->i<=t/\t<i+l.length/\l[t-i]? =some v
 |[],i,h=>by simp[n6,eo] at h
 |x::l,i,h=>by
  simp only[n6,eo] at h
  rcases wo t i with⟨e,ag⟩|⟨e,ag⟩
  · rw[ag] at h;cases h;subst e;simp
  · rw[ag] at h
    obtain⟨I,ae,ax⟩:=On t v l (i+1) h
    refine⟨by omega,by simp;omega,?_⟩
    have:t-i=(t-(i+1))+1:=by omega
    rw[this];simpa using ax
theorem Em(args:List ad):Mod (pz 0 args .leaf) (n6 0 args):=by
 intro t v h
 obtain⟨I,ae,ax⟩:=On t v args 0 h
 rw[G6,if_pos ⟨I,ae⟩,ax];rfl
def fa(P:Program)(need:Nat)(Γ:Env)(h:ab)(x:ResultVar):Option ad:=
 match x with
 |.tmp t=>match Nat.testBit need t with
  |true=>eo t Γ
  |false=>none
 |.cell t ty=>match Nat.testBit need t with
  |true=>match eo t Γ with
   |none=>none
   |some p=>match p,re P ty,ef P ty with
    |.ptr b off,some true,some n=>(match loadCells h b off n with|some cs=>some (.agg cs)|none=>none)
    |.ptr b off,some false,_=>aq h b off
    |_,_,_=>none
  |false=>none
theorem Xo{Γ:Env}{r:ba}(hm:Mod r Γ){h:ab}{x:ResultVar}{v:ad}(aa:fa P need Γ h x=some v):tO P need r h x=some v:=by
 cases x with
 |tmp t=>
  simp only[fa,tO] at aa⊢
  split at aa
  · rename_i ag
    rw[ag];simp only[hm t v aa]
  · cases aa
 |cell t ty=>
  simp only[fa,tO] at aa⊢
  split at aa
  · rename_i ag
    rw[ag]
    simp only
    cases aA:eo t Γ with
    |none=>rw[aA] at aa;simp at aa
    |some p=>rw[aA] at aa;rw[hm t p aA];exact aa
  · cases aa
def qI(P:Program)(need:Nat)(fn:Func)(Γ:Env)(h:ab):Option ad:=
 match qk (fa P need Γ h) fn.results.toList with
 |some [v]=>some v
 |some vs=>some (.aR vs)
 |none=>none
theorem Oo{Γ:Env}{r:ba}(hm:Mod r Γ){h:ab}:∀(l:List ResultVar) (vs:List ad),qk (fa P need Γ h) l=some vs->qk (tO P need r h) l=some vs
 |[],vs,aa=>aa
 |x::l,vs,aa=>by
  simp only[qk] at aa⊢
  cases I:fa P need Γ h x with
  |none=>rw[I] at aa;simp at aa
  |some v=>
   rw[I] at aa
   cases ae:qk (fa P need Γ h) l with
   |none=>rw[ae] at aa;simp at aa
   |some ws=>
    rw[ae] at aa
    rw[Xo hm I,Oo hm l ws ae];exact aa
theorem H0{Γ:Env}{r:ba}(hm:Mod r Γ){h:ab}{fn:Func}{v:ad}(aa:qI P need fn Γ h=some v):ss P need fn r h=some v:=by
 unfold qI at aa
 unfold ss
 cases aV:qk (fa P need Γ h) fn.results.toList with
 |none=>rw[aV] at aa;cases aa
 |some vs=>
  rw[aV] at aa
  rw[Oo hm _ _ aV];exact aa
variable {intr:Nat->List ad->ab->Option (ad×ab)}
theorem Xp{f:Nat}{fn:Func}{c:Code}{n:Nat}{args:List ad}{h:ab}(hf:P.funcs[f]? =some fn)(ag:fn.body=some c)(aH:ej fn=need)(hi:intr f args h=none)(hle:Nat.ble args.length fn.ntmps=true)
  {e:bW}{Γ:Env}{q:bU}{aw:ab}(fB:dA P need none (fF P intr n) c ⟨n6 0 args,[],.none,h⟩ e ⟨Γ,[],q,aw⟩)(he:e=.ret\/e=.nrm){v:ad}(jL:qI P need fn Γ aw=some v):
  fF P intr (n+1) (.fn f) args h=.ret v aw:=by
 subst aH
 obtain⟨r1,I,a3⟩:=fB _ (Em args)
 have ao:=H0 a3 jL
 simp only[fF,hi,su,hf,ag,oJ,hle,I]
 rcases he with rfl|rfl<;>simp only[ry,kJ,ao]
theorem Xq{f:Nat}{fn:Func}{c:Code}{n:Nat}{args:List ad}{h:ab}(hf:P.funcs[f]? =some fn)(ag:fn.body=some c)(aH:ej fn=need)(hi:intr f args h=none)(hle:Nat.ble args.length fn.ntmps=true)
  {v:ad}{Γ:Env}{q:bU}{aw:ab}(fB:dA P need none (fF P intr n) c ⟨n6 0 args,[],.none,h⟩ (.cw v) ⟨Γ,[],q,aw⟩):
  fF P intr (n+1) (.fn f) args h=.cw v aw:=by
 subst aH
 obtain⟨r1,I,a3⟩:=fB _ (Em args)
 simp only[fF,hi,su,hf,ag,oJ,hle,I,ry,kJ]
abbrev a5(P:Program)(fn:Func)(rd:Option Nat)(call:aW)(path:List Nat)(st:bL)(e:bW)(cg:bL):Prop:=dA P (ej fn) rd call (sub (fD fn) path) st e cg
abbrev Oq(P:Program)(fn:Func)(rd:Option Nat)(call:aW)(path:List Nat)(st:bL)(al:List Hint):mT (ih (bW×bL)):=nj P (ej fn) rd call (sub (fD fn) path) st al
theorem Xr{fn:Func}{path:List Nat}{st:bL}{al:List Hint}{e:bW}{cg:bL}{cs:List Prop}(bB:List Nat)(aa:El bB (Oq P fn rd call path st al)=some ⟨(e,cg),cs,[]⟩)(ah:dM cs):a5 P fn rd call path st e cg:=Xm bB aa ah
end
theorem Ot:∀(c:Code) (x:Nat) (l:List Nat),sub c (x::l)=sub (sub c [x]) l
 |.seq a b,0,l=>by simp[sub]
 |.seq a b,_+1,l=>by simp[sub]
 |.cond _ a b,0,l=>by simp[sub]
 |.cond _ a b,_+1,l=>by simp[sub]
 |.rangeFunc _ _ a b,0,l=>by simp[sub]
 |.rangeFunc _ _ a b,_+1,l=>by simp[sub]
 |.block _ b,x,l=>by simp[sub]
 |.loop b,x,l=>by simp[sub]
 |.scope b,x,l=>by simp[sub]
 |.skip,x,l=>by cases l<;>simp[sub]
 |.region _ _ _,x,l=>by cases l<;>simp[sub]
 |.exit _,x,l=>by cases l<;>simp[sub]
 |.ret,x,l=>by cases l<;>simp[sub]
 |.label _,x,l=>by cases l<;>simp[sub]
 |.goto _,x,l=>by cases l<;>simp[sub]
 |.refuse _,x,l=>by cases l<;>simp[sub]
theorem kR(c:Code):∀(p l:List Nat),sub c (p++l)=sub (sub c p) l
 |[],l=>by simp[sub]
 |x::p,l=>by rw[List.cons_append,Ot,kR (sub c [x]) p l,<-Ot]
def rO:Code->Bool
 |.seq _ _=>true
 |_=>false
def yq(id:Nat):Code->Bool
 |.block i _=>Nat.beq i id
 |_=>false
def yr:Code->Bool
 |.loop _=>true
 |_=>false
theorem En{c:Code}(h:rO c=true):c=.seq (sub c [0]) (sub c [1]):=by
 cases c<;>simp[rO,sub] at h⊢
theorem Eo{c:Code}{id:Nat}(h:yq id c=true):c=.block id (sub c [0]):=by
 cases c<;>simp only[yq] at h<;>(try (cases h;done))
 obtain rfl:=Nat.eq_of_beq_eq_true h
 simp[sub]
theorem Ou{c:Code}(h:yr c=true):c=.loop (sub c [0]):=by
 cases c<;>simp[yr,sub] at h⊢
section
variable {P:Program} {rd:Option Nat} {call:aW} {fn:Func}
theorem dA.seq{need:Nat}{a b:Code}{st st1 k9:bL}{e:bW}(I:dA P need rd call a st .nrm st1)(ae:dA P need rd call b st1 e k9):dA P need rd call (.seq a b) st e k9:=by
 intro r ao
 obtain⟨r1,aG,a3⟩:=I r ao
 obtain⟨r2,aE,b7⟩:=ae r1 a3
 exact⟨r2,by simp only[et,aG,sr,aE],b7⟩
theorem dA.wx{need:Nat}{a b:Code}{st st1:bL}{e:bW}(I:dA P need rd call a st e st1)(he:e≠ .nrm):dA P need rd call (.seq a b) st e st1:=by
 intro r ao
 obtain⟨r1,aG,a3⟩:=I r ao
 exact⟨r1,by simp only[et,aG];exact vZ he,a3⟩
theorem dA.block{need:Nat}{id:Nat}{b:Code}{st st1:bL}(I:dA P need rd call b st (.exit id) st1):dA P need rd call (.block id b) st .nrm st1:=by
 intro r ao
 obtain⟨r1,aG,a3⟩:=I r ao
 exact⟨r1,by simp only[et,aG,if_true],a3⟩
theorem dA.s0{need:Nat}{id:Nat}{b:Code}{st st1:bL}{e:bW}(I:dA P need rd call b st e st1)(he:e≠ .exit id):dA P need rd call (.block id b) st e st1:=by
 intro r ao
 obtain⟨r1,aG,a3⟩:=I r ao
 refine⟨r1,?_,a3⟩
 simp only[et,aG]
 cases e<;>first|rfl|(rename_i i;exact if_neg λh=>he (by rw[h]))
theorem a5.seq{p:List Nat}{st st1 k9:bL}{e:bW}(al:rO (sub (fD fn) p)=true)(I:a5 P fn rd call (p++[0]) st .nrm st1)(ae:a5 P fn rd call (p++[1]) st1 e k9):a5 P fn rd call p st e k9:=by
 unfold a5 at*
 rw[En al]
 rw[kR] at I ae
 exact I.seq ae
theorem a5.wx{p:List Nat}{st st1:bL}{e:bW}(al:rO (sub (fD fn) p)=true)(I:a5 P fn rd call (p++[0]) st e st1)(he:e≠ .nrm):a5 P fn rd call p st e st1:=by
 unfold a5 at*
 rw[En al]
 rw[kR] at I
 exact I.wx he
theorem a5.block{p:List Nat}{id:Nat}{st st1:bL}(al:yq id (sub (fD fn) p)=true)(I:a5 P fn rd call (p++[0]) st (.exit id) st1):a5 P fn rd call p st .nrm st1:=by
 unfold a5 at*
 rw[Eo al]
 rw[kR] at I
 exact I.block
theorem a5.s0{p:List Nat}{id:Nat}{st st1:bL}{e:bW}(al:yq id (sub (fD fn) p)=true)(I:a5 P fn rd call (p++[0]) st e st1)(he:e≠ .exit id):a5 P fn rd call p st e st1:=by
 unfold a5 at*
 rw[Eo al]
 rw[kR] at I
 exact I.s0 he
def fX(P:Program)(fn:Func)(rd:Option Nat)(call:aW)(p:List Nat)(n:Nat)(st:bL)(e:bW)(cg:bL):Prop:=qH P (ej fn) rd call (sub (fD fn) (p++[0])) n st e cg
theorem fX.step{p:List Nat}{n:Nat}{st st1 cg:bL}{e:bW}(h:a5 P fn rd call (p++[0]) st .nrm st1)(ae:fX P fn rd call p n st1 e cg):fX P fn rd call p (n+1) st e cg:=qH.step h ae
theorem fX.exit{p:List Nat}{n:Nat}{st cg:bL}{e:bW}(h:a5 P fn rd call (p++[0]) st e cg)(he:e≠ .nrm):fX P fn rd call p (n+1) st e cg:=qH.exit h he
theorem fX.run{p:List Nat}{n:Nat}{st cg:bL}{e:bW}(al:yr (sub (fD fn) p)=true)(h:fX P fn rd call p n st e cg)(aH:n<=100000):a5 P fn rd call p st e cg:=by
 unfold a5
 rw[Ou al]
 unfold fX at h
 rw[kR] at h
 exact qH.run h aH
theorem nk{intr:Nat->List ad->ab->Option (ad×ab)}{f:Nat}{n:Nat}{args:List ad}{h:ab}(hf:P.funcs[f]? =some fn)(ag:fn.body.isSome=true)(hi:intr f args h=none)(hle:Nat.ble args.length fn.ntmps=true)
  {e:bW}{Γ:Env}{q:bU}{aw:ab}(fB:a5 P fn none (fF P intr n) [] ⟨n6 0 args,[],.none,h⟩ e ⟨Γ,[],q,aw⟩)(he:e=.ret\/e=.nrm){v:ad}(jL:qI P (ej fn) fn Γ aw=some v):
  fF P intr (n+1) (.fn f) args h=.ret v aw:=by
 obtain⟨c,ah⟩:=Option.isSome_iff_exists.1 ag
 have s3:fD fn=c:=by simp[fD,ah]
 unfold a5 at fB
 rw[s3] at fB
 simp only[sub] at fB
 exact Xp hf ah rfl hi hle fB he jL
theorem Xs{intr:Nat->List ad->ab->Option (ad×ab)}{f:Nat}{n:Nat}{args:List ad}{h:ab}(hf:P.funcs[f]? =some fn)(ag:fn.body.isSome=true)(hi:intr f args h=none)(hle:Nat.ble args.length fn.ntmps=true)
  {v:ad}{Γ:Env}{q:bU}{aw:ab}(fB:a5 P fn none (fF P intr n) [] ⟨n6 0 args,[],.none,h⟩ (.cw v) ⟨Γ,[],q,aw⟩):fF P intr (n+1) (.fn f) args h=.cw v aw:=by
 obtain⟨c,ah⟩:=Option.isSome_iff_exists.1 ag
 have s3:fD fn=c:=by simp[fD,ah]
 unfold a5 at fB
 rw[s3] at fB
 simp only[sub] at fB
 exact Xq hf ah rfl hi hle fB
theorem la{i m:Nat}(hi:i<m)(hm:m<=1000000000000):arith BinOp.add IntKind.i64 (Int.ofNat i) (Int.ofNat 1)=some (ad.int IntKind.i64 (Int.ofNat (i+1))):=by
 have h:=tZ (i+1) (by omega)
 have e:Int.ofNat i+Int.ofNat 1=((i+1:Nat):Int):=rfl
 simp only[arith,e,h];rfl
theorem eD{a b:Nat}(h:a<b):gY (Int.ofNat a) (Int.ofNat b)=true:=by simp[gY];omega
theorem fI{a b:Nat}(h:¬a<b):gY (Int.ofNat a) (Int.ofNat b)=false:=by simp[gY];omega
theorem pQ{s:List UInt8}{i:Nat}(h:i<s.length):hX i s=some (.int .u8 (Int.ofNat (s[i]).toNat)):=by
 unfold hX
 rw[sx,List.getElem?_eq_getElem h]
end
structure Ext(B:Nat)(h aw:ab):Prop where
 n:h.n<=aw.n
 get:∀b,b<B->aw.get b=h.get b
theorem Ext.refl(B:Nat)(h:ab):Ext B h h:=⟨Nat.le_refl _,λ_ _=>rfl⟩
theorem Ext.trans{B n7:Nat}{h I ae:ab}(dd:B<=n7)(e:Ext B h I)(dc:Ext n7 I ae):Ext B h ae:=⟨Nat.le_trans e.n dc.n,λb ag=>(dc.get b (Nat.lt_of_lt_of_le ag dd)).trans (e.get b ag)⟩
theorem Ext.push{B:Nat}{h:ab}(dd:B<=h.n)(o:dQ):Ext B h (h.push o):=⟨by simp,λb ag=>by rw[ab.hr,if_neg (by omega)]⟩
theorem Ext.set{B:Nat}{h:ab}{b:Nat}(ag:B<=b)(o:Option dQ):Ext B h (h.set b o):=⟨by simp,λc ah=>by rw[ab.dx,if_neg (by omega)]⟩
theorem Ext.room(B:Nat)(h:ab)(k:Nat):Ext B h (h.room k):=⟨by simp,λ_ _=>rfl⟩
theorem Bb:∀(l m:List ad),takeN l.length (l++m)=some l
 |[],m=>rfl
 |a::l,m=>by simp[takeN,Bb l m]
theorem Ep{h:ab}{b e lo hi:Nat}{k:hb}{xs rest:List ad}(ar:h.get b=some (.cells (xs++rest) e k lo hi)):loadCells h b 0 xs.length=some xs:=by
 simp[loadCells,ar,j4,Bb]
section
variable {P:Program}
theorem yu{h:ab}{e bytes size need:Nat}{z:ad}{cs:List ad}{fz:Nat}(I:mG need bytes=true)(ae:Nat.beq z.cells.length size=true)(ax:cs.all ad.de=true):l_ h e bytes size need z cs fz=some (.slice h.n 0 need (.aL size),h.push (.cells cs e .aL 0 fz)):=by
 unfold l_
 rw[I,ae,ax];rfl
theorem Ov{h:ab}{t:TypeId}{s:List UInt8}{hi:Nat}{cO:IntKind}(hu:P.underlying t=some .string)(ae:hi<=s.length):
  dC P h t (.str s) none (some (.int cO (Int.ofNat hi))) none=some (.str (s.take hi)):=by
 have bn:Nat.ble s.length s.length=true:=by simp
 have bo:Nat.ble hi s.length=true:=by simpa using ae
 have c9:Nat.ble 0 hi=true:=by simp
 simp only[dC,hu,bounds,hU,fe,bn,bo,c9,pB,List.drop_zero,Nat.sub_zero]
theorem Xt{h:ab}{t:TypeId}{s:List UInt8}{lo:Nat}{k:IntKind}(hu:P.underlying t=some .string)(ae:lo<=s.length):
  dC P h t (.str s) (some (.int k (Int.ofNat lo))) none none=some (.str (s.drop lo)):=by
 have bn:Nat.ble s.length s.length=true:=by simp
 have bo:Nat.ble lo s.length=true:=by simpa using ae
 simp only[dC,hu,bounds,hU,fe,bn,bo,pB]
 rw[List.take_of_length_le (by simp)]
theorem iR{x y:List UInt8}(h:x.length+y.length<=1000000000000):hL .add x y=some (.str (x++y)):=by
 have:¬(((x.length+y.length:Nat):Int)>IntKind.i64.max):=by
  have e:IntKind.i64.max=9223372036854775807:=rfl
  rw[e];omega
 simp only[hL,if_neg this]
end
variable {P:Program} {call:aW}
def Xu(l:Nat)(e:bW)(need:Nat)(r:ba)(ps:List Nat)(as cK:Code)(fy:Nat)(h:ab):bE:=match e with
 |.nrm=>.ret (.bool true) (h.set l (some (.loop .ready none need r ps as cK fy)))
 |.ret=>.ret (.bool false) (h.set l (some (.loop .done (some .ret) need r ps as cK fy)))
 |.exit id=>.ret (.bool false) (h.set l (some (.loop .done (some (.exit id)) need r ps as cK fy)))
 |.cw v=>.cw v h
 |.goto _=>.fail ""
theorem Ow{l need t fy:Nat}{Γ iC Γ2:Env}{as cK:Code}{v:ad}{h ae:ab}{q a2:bU}{e:bW}{r:ba}
  (ar:h.get l=some (.loop .ready none need r [t] as cK fy))(hm:Mod r Γ)
  (aV:dA P need (some l) call as ⟨put t v Γ,[],.none,h⟩ .nrm ⟨iC,[],q,h⟩)
  (ag:dA P need (some l) call cK ⟨iC,[],.none,h.set l (some (.loop .busy none need r [t] as cK fy))⟩ e ⟨Γ2,[],a2,ae⟩)
  (ay:ae.get l=some (.loop .busy none need r [t] as cK fy)):
  vE P call l [v] h=Xu l e need r [t] as cK fy ae:=by
 obtain⟨r1,aG,a3⟩:=aV _ (hm.put t v)
 obtain⟨r2,aE,b7⟩:=ag _ a3
 simp only at aG aE
 simp only[vE,ar,xR,aG,Gk,aE]
 simp only[z7,ay]
 cases e<;>rfl
theorem pR{h:ab}{b t:Nat}{x:ad}(ar:h.get b=some (.cells [x] t .own 0 0)):aq h b 0=some x:=by
 simp only[aq,ar];rfl
theorem Er{h:ab}{b t:Nat}{x y:ad}(aZ:y.de=true)(ar:h.get b=some (.cells [x] t .own 0 0)):bg.storeCells h b 0 [y]=some (h.set b (some (.cells [y] t .own 0 0))):=by
 have hw:mF .own 0 0 0 [y].length=true:=rfl
 simp only[bg.storeCells,ar,hw,gD,aZ]
end bg
namespace bg
open Go
def W(P:Program)(need:Nat)(rd:Option Nat)(call:aW)(c:Code)(Q:bW->ba->List cb->bU->ab->Prop)(r:ba)(d:List cb)(q:bU)(h:ab):Prop:=
 ∃e r' d' br aw,et P need rd call c r d q h=.ok e r' d' br aw/\Q e r' d' br aw
section
variable {P:Program} {need:Nat} {rd:Option Nat} {call:aW} {fn:Func}
theorem W.of{c:Code}{Q:bW->ba->List cb->bU->ab->Prop}{r:ba}{st cg:bL}{e:bW}(ao:dA P need rd call c st e cg)(hm:Mod r st.Γ)(k:∀r',Mod r' cg.Γ->Q e r' cg.d cg.q cg.h):W P need rd call c Q r st.d st.q st.h:=by
 obtain⟨r',I,ae⟩:=ao r hm
 exact⟨e,r',_,_,_,I,k r' ae⟩
theorem W.seq{a b:Code}{Q:bW->ba->List cb->bU->ab->Prop}{r:ba}{d:List cb}{q:bU}{h:ab}
  (hw:W P need rd call a (λe r d q h=>(e=.nrm/\W P need rd call b Q r d q h)\/(e≠ .nrm/\Q e r d q h)) r d q h):W P need rd call (.seq a b) Q r d q h:=by
 obtain⟨e,r1,d1,a8,I,ae,ax⟩:=hw
 rcases ax with⟨rfl,aE,r2,d2,a2,aN,bS,cz⟩|⟨dr,aK⟩
 · exact⟨aE,r2,d2,a2,aN,by simp only[et,ae,sr,bS],cz⟩
 · exact⟨e,r1,d1,a8,I,by simp only[et,ae];exact vZ dr,aK⟩
theorem W.block{id:Nat}{b:Code}{Q:bW->ba->List cb->bU->ab->Prop}{r:ba}{d:List cb}{q:bU}{h:ab}
  (hw:W P need rd call b (λe r d q h=>(e=.exit id/\Q .nrm r d q h)\/(e≠ .exit id/\Q e r d q h)) r d q h):W P need rd call (.block id b) Q r d q h:=by
 obtain⟨e,r1,d1,a8,I,ae,ax⟩:=hw
 rcases ax with⟨rfl,aK⟩|⟨dr,aK⟩
 · exact⟨.nrm,r1,d1,a8,I,by simp only[et,ae,if_true],aK⟩
 · refine⟨e,r1,d1,a8,I,?_,aK⟩
   simp only[et,ae]
   cases e<;>first|rfl|(rename_i i;exact if_neg λh=>dr (by rw[h]))
abbrev WF(P:Program)(fn:Func)(rd:Option Nat)(call:aW)(path:List Nat):=W P (ej fn) rd call (sub (fD fn) path)
theorem WF.seq{p:List Nat}{Q:bW->ba->List cb->bU->ab->Prop}{r:ba}{d:List cb}{q:bU}{h:ab}(al:rO (sub (fD fn) p)=true)
  (hw:WF P fn rd call (p++[0]) (λe r d q h=>(e=.nrm/\WF P fn rd call (p++[1]) Q r d q h)\/(e≠ .nrm/\Q e r d q h)) r d q h):WF P fn rd call p Q r d q h:=by
 unfold WF at*
 rw[En al]
 rw[kR,kR] at hw
 exact hw.seq
theorem WF.block{p:List Nat}{id:Nat}{Q:bW->ba->List cb->bU->ab->Prop}{r:ba}{d:List cb}{q:bU}{h:ab}(al:yq id (sub (fD fn) p)=true)
  (hw:WF P fn rd call (p++[0]) (λe r d q h=>(e=.exit id/\Q .nrm r d q h)\/(e≠ .exit id/\Q e r d q h)) r d q h):WF P fn rd call p Q r d q h:=by
 unfold WF at*
 rw[Eo al]
 rw[kR] at hw
 exact hw.block
def H2(f:Operand)(ps:List Nat):Code->Bool
 |.rangeFunc (.tmp g) eJ _ _=>(match f with|.tmp t=>Nat.beq g t|_=>false)&&eJ.toList==ps
 |_=>false
theorem Xv{c:Code}{t:Nat}{ps:List Nat}(h:H2 (.tmp t) ps c=true):∃eJ:Array Nat,eJ.toList=ps/\c=.rangeFunc (.tmp t) eJ (sub c [0]) (sub c [1]):=by
 unfold H2 at h
 split at h
 · rename_i g eJ a b
   simp only[Bool.and_eq_true] at h
   obtain⟨I,ae⟩:=h
   obtain rfl:=Nat.eq_of_beq_eq_true I
   exact⟨eJ,eq_of_beq ae,by simp[sub]⟩
 · cases h
theorem W.range{f:Operand}{ps:Array Nat}{as cK:Code}{Γ:Env}{Q:bW->ba->List cb->bU->ab->Prop}{r:ba}{d:List cb}{q:bU}{h:ab}{g:Nat}{a_:List ad}
  (hf:pO 0 [] Γ (da P need [] f)=some (.fn g [] a_))(hm:Mod r Γ)
  (ah:∃e aw,py (h.n+1) r (.collected h.n::d) q (call (.fn g) (.eb (h.n+1)::a_) ((h.push (.defrd (some []))).push (.loop .ready none need r ps.toList as cK h.n)))=.ok e r (.collected h.n::d) q aw/\Q e r (.collected h.n::d) q aw):
  W P need none call (.rangeFunc f ps as cK) Q r d q h:=by
 obtain⟨e,aw,aM,bf⟩:=ah
 refine⟨e,r,_,q,aw,?_,bf⟩
 have ar:=wq hm hf
 rw[<-aM]
 simp only[et,z5,ar,vC,qj]
 rfl
theorem WF.range{p:List Nat}{t:Nat}{ps:List Nat}{Γ:Env}{Q:bW->ba->List cb->bU->ab->Prop}{r:ba}{d:List cb}{q:bU}{h:ab}{g:Nat}{a_:List ad}(al:H2 (.tmp t) ps (sub (fD fn) p)=true)
  (aH:Nat.testBit (ej fn) t=true)(hf:eo t Γ=some (.fn g [] a_))(hm:Mod r Γ)
  (ah:∃e aw,py (h.n+1) r (.collected h.n::d) q (call (.fn g) (.eb (h.n+1)::a_) ((h.push (.defrd (some []))).push (.loop .ready none (ej fn) r ps (sub (fD fn) (p++[0])) (sub (fD fn) (p++[1])) h.n)))=.ok e r (.collected h.n::d) q aw/\Q e r (.collected h.n::d) q aw):
  WF P fn none call p Q r d q h:=by
 obtain⟨eJ,aK,he⟩:=Xv al
 unfold WF
 rw[kR,kR] at ah
 rw[he]
 subst aK
 refine W.range (Γ:=Γ) ?_ hm ah
 have:da P (ej fn) [] (.tmp t)=.reg (h_ t):=by
  unfold da
  simp only[jx,aH]
 rw[this]
 show eo (h_ t).num Γ=_
 rw[Dc];exact hf
theorem Xw{intr:Nat->List ad->ab->Option (ad×ab)}{f:Nat}{n:Nat}{args:List ad}{h:ab}{X:bE}(hf:P.funcs[f]? =some fn)(ag:fn.body.isSome=true)(hi:intr f args h=none)(hle:Nat.ble args.length fn.ntmps=true)
  (hw:WF P fn none (fF P intr n) [] (λe r d q aw=>ry P (fF P intr n) fn (.ok e r d q aw)=X) (pz 0 args .leaf) [] .none h):fF P intr (n+1) (.fn f) args h=X:=by
 obtain⟨c,ah⟩:=Option.isSome_iff_exists.1 ag
 have s3:fD fn=c:=by simp[fD,ah]
 obtain⟨e,r,d,q,aw,I,ae⟩:=hw
 rw[s3] at I
 simp only[sub] at I
 simp only[fF,hi,su,hf,ah,oJ,hle,I,ae]
end
theorem wy:∀l:List UInt8,(dR l).length=l.length
 |[]=>rfl
 |a::l=>by simp[dR,wy l]
theorem Es:∀l m:List UInt8,dR (l++m)=dR l++dR m
 |[],m=>rfl
 |a::l,m=>by simp[dR,Es l m]
theorem Et:∀l:List UInt8,(dR l).all ad.de=true
 |[]=>rfl
 |a::l=>by rw[dR,List.all_cons,Et l];rfl
theorem H3:∀l:List UInt8,pw (dR l)=some l
 |[]=>rfl
 |a::l=>by
  have I:Nat.blt a.toNat 256=true:=by have:=UInt8.toNat_lt a;simp[Nat.blt];omega
  simp only[dR,pw,H3 l,I,UInt8.ofNat_toNat]
theorem H4:∀(xs ys:List ad),xs.all ad.de=true->xs.length<=ys.length->gD 0 xs ys=some (xs++ys.drop xs.length)
 |[],ys,_,_=>by cases ys<;>simp[gD]
 |x::xs,[],_,h=>by simp at h
 |x::xs,y::ys,aa,h=>by
  simp only[List.all_cons,Bool.and_eq_true] at aa
  have bl:=H4 xs ys aa.2 (by simpa using h)
  simp[gD,aa.1,bl]
theorem yv:∀(l xs ys:List ad),xs.all ad.de=true->xs.length<=ys.length->gD l.length xs (l++ys)=some (l++(xs++ys.drop xs.length))
 |[],xs,ys,aa,h=>by simpa using H4 xs ys aa h
 |a::l,[],ys,aa,h=>by simp[gD]
 |a::l,x::xs,ys,aa,h=>by
  have bl:=yv l (x::xs) ys aa h
  simp only[List.length_cons,List.cons_append,gD] at bl⊢
  rw[bl]
theorem Xx{i j:Nat}(h:i+j<9223372036854775808):arith BinOp.add IntKind.i64 (Int.ofNat i) (Int.ofNat j)=some (ad.int IntKind.i64 (Int.ofNat (i+j))):=by
 have h:=tZ (i+j) h
 have e:Int.ofNat i+Int.ofNat j=((i+j:Nat):Int):=rfl
 simp only[arith,e,h];rfl
theorem yw{i j:Nat}(aO:j<=i)(h:i<9223372036854775808):arith BinOp.sub IntKind.i64 (Int.ofNat i) (Int.ofNat j)=some (ad.int IntKind.i64 (Int.ofNat (i-j))):=by
 have h:=tZ (i-j) (by omega)
 have e:Int.ofNat i-Int.ofNat j=((i-j:Nat):Int):=by
  have aG:Int.ofNat i=(i:Int):=rfl
  have aE:Int.ofNat j=(j:Int):=rfl
  rw[aG,aE];omega
 simp only[arith,e,h];rfl
theorem Xy{i j:Nat}(h:i*j<9223372036854775808):arith BinOp.mul IntKind.i64 (Int.ofNat i) (Int.ofNat j)=some (ad.int IntKind.i64 (Int.ofNat (i*j))):=by
 have h:=tZ (i*j) h
 have e:Int.ofNat i*Int.ofNat j=((i*j:Nat):Int):=rfl
 simp only[arith,e,h];rfl
theorem n8{a b:Nat}(h:a<=b):j5 (Int.ofNat a) (Int.ofNat b)=true:=by simp[j5];omega
theorem pS{a b:Nat}(h:¬a<=b):j5 (Int.ofNat a) (Int.ofNat b)=false:=by simp[j5];omega
def rP(B e:Nat)(h:ab)(v:ad)(w:List UInt8):Prop:=
 (v=.aP/\w=[])\/∃c rest,v=.slice c 0 w.length (.aL 1)/\h.get c=some (.cells (dR w++rest) e .aL 0 0)/\B<=c/\c<h.n
theorem rP.ext{B e:Nat}{h aw:ab}{v:ad}{w:List UInt8}(ag:rP B e h v w)(aH:h.n<=aw.n)(ar:∀c,B<=c->c<h.n->aw.get c=h.get c):rP B e aw v w:=by
 rcases ag with I|⟨c,rest,I,ae,ax,aN⟩
 · exact .inl I
 · exact .inr ⟨c,rest,I,(ar c ax aN).trans ae,ax,by omega⟩
section
variable {P:Program}
theorem Ox{B:Nat}{h:ab}{v:ad}{w s:List UInt8}{sT e:TypeId}{xT:Option TypeId}{i:TypeInfo}{z:ad}(dd:B<=h.n)(hu:P.underlying sT=some (.slice e))(fG:rf P xT=true)(hi:P.info? e=some i)(bJ:i.size=1)(a7:eT P e=some z)(jc:z.cells.length=1)
  (nQ:mG (w.length+s.length) i.bytes=true)(ao:rP B e h v w):
  ∃v' aw,dJ P h sT xT v (.str s)=some (v',aw)/\rP B e aw v' (w++s)/\Ext B h aw:=by
 have iS:fu h 1 (.str s)=some (s.length,dR s):=rfl
 have Oy:Nat.beq z.cells.length 1=true:=by rw[jc];rfl
 rcases ao with⟨rfl,rfl⟩|⟨c,rest,rfl,ar,uG,sZ⟩
 · cases s with
   |nil=>exact⟨.aP,h,by simp only[dJ,hu,fG,hi,a7,bJ];rfl,.inl ⟨rfl,rfl⟩,Ext.refl _ _⟩
   |cons a s=>
    have Xz:mG (a::s).length i.bytes=true:=by simpa using nQ
    have eP:=yu (h:=h) (e:=e) (fz:=0) Xz Oy (Et (a::s))
    refine⟨.slice h.n 0 (a::s).length (.aL 1),h.push (.cells (dR (a::s)) e .aL 0 0),?_,.inr ⟨h.n,[],by simp,by rw[ab.hr,if_pos rfl];simp,dd,by simp⟩,Ext.push dd _⟩
    rw[<-eP]
    simp only[dJ,hu,fG,hi,a7,bJ,iS]
    rfl
 · cases s with
   |nil=>exact⟨.slice c 0 w.length (.aL 1),h,by simp only[dJ,hu,fG,hi,a7,bJ];rfl,.inr ⟨c,rest,by simp,by simpa using ar,uG,sZ⟩,Ext.refl _ _⟩
   |cons a s=>
    have Oz:(Nat.beq 1 1&&Nat.blt 0 1)=true:=rfl
    by_cases uf:(a::s).length<=rest.length
    · have qJ:Nat.ble (0+(w.length+(a::s).length)*1) (dR w++rest).length=true:=by
        simp only[Nat.ble_eq,List.length_append,wy];omega
      have a0:=yv (dR w) (dR (a::s)) rest (Et _) (by rw[wy];exact uf)
      have hw:mF .aL 0 0 (0+w.length*1) (dR (a::s)).length=true:=by unfold mF;simp
      have AN:gD (0+w.length*1) (dR (a::s)) (dR w++rest)=some (dR w++(dR (a::s)++rest.drop (dR (a::s)).length)):=by
       rw[<-a0,wy];simp
      refine⟨.slice c 0 (w.length+(a::s).length) (.aL 1),h.set c (some (.cells (dR w++(dR (a::s)++rest.drop (dR (a::s)).length)) e .aL 0 0)),?_,.inr ⟨c,rest.drop (dR (a::s)).length,by simp,by rw[ab.dx,if_pos rfl,Es];simp,uG,by simpa using sZ⟩,Ext.set uG _⟩
      simp only[dJ,hu,fG,hi,a7,bJ,iS]
      simp only[Oz,List.length_cons,ar]
      simp only[List.length_cons] at qJ AN hw
      simp only[qJ,bg.storeCells,ar,hw,AN]
    · have qJ:Nat.ble (0+(w.length+(a::s).length)*1) (dR w++rest).length=false:=by
        cases ag:Nat.ble (0+(w.length+(a::s).length)*1) (dR w++rest).length with
        |false=>rfl
        |true=>simp only[Nat.ble_eq,List.length_append,wy] at ag;omega
      have aA:loadCells h c 0 (w.length*1)=some (dR w):=by
       have:=Ep (xs:=dR w) ar
       rw[wy] at this;simpa using this
      have eL:(dR w++dR (a::s)).all ad.de=true:=by rw[<-Es];exact Et _
      have Bc:(Nat.ble 0 (0+w.length*1)&&Nat.beq e e)=true:=by simp
      have eP:=yu (h:=h.set c none) (e:=e) (fz:=0-0) nQ Oy eL
      refine⟨.slice (h.set c none).n 0 (w.length+(a::s).length) (.aL 1),(h.set c none).push (.cells (dR w++dR (a::s)) e .aL 0 0),?_,.inr ⟨(h.set c none).n,[],by simp,by rw[ab.hr,if_pos rfl,Es];simp,by simp;omega,by simp⟩,
       (Ext.set uG none).trans (Nat.le_refl _) (Ext.push (by simp;omega) _)⟩
      simp only[List.length_cons] at qJ eP
      simp only[dJ,hu,fG,hi,a7,bJ,iS]
      simp only[Oz,List.length_cons,ar]
      simp only[qJ,aA,Bc,eP]
theorem OA{h:ab}{pT u:TypeId}{c e:Nat}{w:List UInt8}{rest:List ad}(hw:w≠[])(aA:w.length<=100000000000)(hu:P.underlying pT=some (.pointer u))(he:P.underlyingId e=P.underlyingId u)(al:ef P e=some 1)(ar:h.get c=some (.cells (dR w++rest) e .aL 0 0)):
  ri P h pT (.ptr c 0) (.int .i64 (Int.ofNat w.length))=some (.str w,h.set c (some (.cells (dR w++rest) e .fz 0 0))):=by
 have aH:w.length≠0:=by cases w<;>simp at hw⊢
 have bm:takeN w.length (j4 0 (dR w++rest))=some (dR w):=by
  have:=Bb (dR w) rest
  rw[wy] at this;exact this
 have hle:Nat.ble w.length 281474976710656=true:=by simp;omega
 simp only[ri,fe,if_neg aH,hu,ar,he,al,hle,bm,H3]
 simp
end
section
variable {D:Type}
variable {enc:D->List ad} {w:Nat}
theorem H5:∀(l m:List ad) (n:Nat),l.length=n->takeN n (l++m)=some l
 |l,m,n,h=>by subst h;exact Bb l m
theorem H6:∀(l m:List ad),j4 l.length (l++m)=m
 |[],m=>by cases m<;>rfl
 |a::l,m=>by simp[j4,H6 l m]
end
theorem Eu(n:Nat)(h:n<18446744073709551616):IntKind.wrap .u64 (n:Int)=(n:Int):=by
 have e:((n:Int) %18446744073709551616)=n:=by omega
 have aE:(2:Int)^64=18446744073709551616:=by rfl
 simp only[IntKind.wrap,IntKind.bits,IntKind.signed,aE,e,Bool.false_and,if_neg Bool.false_ne_true]
theorem wrap_u8(n:Nat):IntKind.wrap .u8 (n:Int)=((n %256:Nat):Int):=by
 have aE:(2:Int)^8=256:=by rfl
 simp only[IntKind.wrap,IntKind.bits,IntKind.signed,aE,Bool.false_and,if_neg Bool.false_ne_true]
 omega
theorem XA{i j:Nat}(h:i+j<18446744073709551616):arith BinOp.add IntKind.u64 (Int.ofNat i) (Int.ofNat j)=some (ad.int IntKind.u64 (Int.ofNat (i+j))):=by
 have h:=Eu (i+j) h
 have e:Int.ofNat i+Int.ofNat j=((i+j:Nat):Int):=rfl
 simp only[arith,e,h];rfl
theorem XB{i j:Nat}(aO:j<=i)(h:i<18446744073709551616):arith BinOp.sub IntKind.u64 (Int.ofNat i) (Int.ofNat j)=some (ad.int IntKind.u64 (Int.ofNat (i-j))):=by
 have h:=Eu (i-j) (by omega)
 have e:Int.ofNat i-Int.ofNat j=((i-j:Nat):Int):=by
  have aG:Int.ofNat i=(i:Int):=rfl
  have aE:Int.ofNat j=(j:Int):=rfl
  rw[aG,aE];omega
 simp only[arith,e,h];rfl
theorem XC(k:IntKind){i j:Nat}(aO:0<j):arith BinOp.rem k (Int.ofNat i) (Int.ofNat j)=some (ad.int k (Int.ofNat (i %j))):=by
 have e:(Int.ofNat i).tmod (Int.ofNat j)=((i %j:Nat):Int):=rfl
 have dr:¬(Int.ofNat j=0):=by
  have aG:Int.ofNat j=(j:Int):=rfl
  rw[aG];omega
 simp only[arith,if_neg dr,e];rfl
section
variable {P:Program}
theorem Ev{a b:TypeId}{ka k cO:IntKind}{n:Int}{h:ab}(aV:P.underlying a=some (.int ka))(ag:P.underlying b=some (.int cO)){m:Int}(hm:cO.wrap n=m):hp P a b (.int k n) h=.val (.int cO m) h:=by
 simp only[hp,aV,ag,hm]
end
theorem o2{a b:Nat}(h:a=b):fc (Int.ofNat a) (Int.ofNat b)=true:=by subst h;simp[fc]
theorem kS{a b:Nat}(h:¬a=b):fc (Int.ofNat a) (Int.ofNat b)=false:=by
 cases aa:fc (Int.ofNat a) (Int.ofNat b) with
 |false=>rfl
 |true=>simp[fc] at aa;omega
theorem Ew(m l:Nat):mF .aL 0 0 m l=true:=by unfold mF;simp
structure mV(p B:Nat)(h aw:ab):Prop where
 n:h.n<=aw.n
 get:∀b,b<B->b≠p->aw.get b=h.get b
theorem Ext.XD{B:Nat}{h aw:ab}(e:Ext B h aw)(p:Nat):mV p B h aw:=⟨e.n,λb ag _=>e.get b ag⟩
theorem mV.refl(p B:Nat)(h:ab):mV p B h h:=⟨Nat.le_refl _,λ_ _ _=>rfl⟩
theorem mV.trans{p B n7:Nat}{h I ae:ab}(dd:B<=n7)(e:mV p B h I)(dc:mV p n7 I ae):mV p B h ae:=⟨Nat.le_trans e.n dc.n,λb ag a0=>(dc.get b (Nat.lt_of_lt_of_le ag dd) a0).trans (e.get b ag a0)⟩
theorem mV.ajE{p B:Nat}{h aw:ab}(e:mV p B h aw)(a0:B<=p):Ext B h aw:=⟨e.n,λb ag=>e.get b ag (by omega)⟩
theorem Ext.le{B n7:Nat}{h aw:ab}(e:Ext n7 h aw)(dd:B<=n7):Ext B h aw:=⟨e.n,λb ag=>e.get b (by omega)⟩
theorem e7{h:ab}{o:dQ}{b:Nat}(ag:b=h.n):(h.push o).get b=some o:=by subst ag;rw[ab.hr,if_pos rfl]
theorem nn{h:ab}{o:dQ}{b:Nat}{x:Option dQ}(ag:b<h.n)(aa:h.get b=x):(h.push o).get b=x:=by rw[ab.hr,if_neg (by omega)];exact aa
theorem eK{h:ab}{o:dQ}{b c:Nat}(ag:b=c):(h.set c (some o)).get b=some o:=by subst ag;rw[ab.dx,if_pos rfl]
theorem cX{h:ab}{b c:Nat}{o x:Option dQ}(ag:¬b=c)(aa:h.get b=x):(h.set c o).get b=x:=by rw[ab.dx,if_neg ag];exact aa
theorem aF{h:ab}{b off:Nat}{cs:List ad}{e lo up:Nat}{k:hb}{v:ad}(ar:h.get b=some (.cells cs e k lo up))(aH:nth off cs=some v):aq h b off=some v:=by simp only[aq,ar,aH]
theorem lU{h:ab}{b off m:Nat}{cs vs:List ad}{e lo up:Nat}{k:hb}(ar:h.get b=some (.cells cs e k lo up))(aH:takeN m (j4 off cs)=some vs):bg.loadCells h b off m=some vs:=by simp only[bg.loadCells,ar,aH]
theorem eV{h:ab}{b off:Nat}{xs cs b5:List ad}{e lo up:Nat}{k:hb}(ar:h.get b=some (.cells cs e k lo up))(hw:mF k lo up off xs.length=true)(a0:gD off xs cs=some b5):bg.storeCells h b off xs=some (h.set b (some (.cells b5 e k lo up))):=by simp only[bg.storeCells,ar,hw,a0]
theorem Ext.hQ{B b:Nat}{h g:ab}{o:Option dQ}(ag:B<=b)(e:Ext B h g):Ext B h (g.set b o):=e.trans (Nat.le_refl _) (Ext.set ag _)
theorem Ext.lV{B:Nat}{h g:ab}{o:dQ}(dd:B<=g.n)(e:Ext B h g):Ext B h (g.push o):=e.trans (Nat.le_refl _) (Ext.push dd _)
theorem Ext.iT{B k:Nat}{h g:ab}(e:Ext B h g):Ext B h (g.room k):=⟨Nat.le_trans e.n (Nat.le_add_right _ _),e.get⟩
theorem yx(a:List UInt8):c1 a a=true:=by
 induction a with
 |nil=>rfl
 |cons x l bl=>simp[c1,bl]
theorem XE(a b:Int):mH sm (.int .i64 a) [.int .i64 b]=some (.int .i64 (min a b)):=by
 simp only[mH,sm,if_true]
 by_cases h:b<a
 · have aA:gY b a=true:=by simp[gY];omega
   rw[if_pos aA,Int.min_eq_right (by omega)]
 · have aA:¬gY b a=true:=by simp[gY];omega
   rw[if_neg aA,Int.min_eq_left (by omega)]
theorem XF(a b:Nat):mH sm (.int .i64 (Int.ofNat a)) [.int .i64 (Int.ofNat b)]=some (.int .i64 (Int.ofNat (min a b))):=by
 rw[XE];congr 2
 show min (a:Int) (b:Int)=((min a b:Nat):Int)
 omega
end bg
