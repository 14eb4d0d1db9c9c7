/-
  PROVED HERE: contracts of functions (Tx). No condition beside each statement's own.
-/
import Derived.Test.YtjkomfonmcmgdaaGreatDoorSxb
set_option linter.unusedVariables false
set_option linter.unusedSimpArgs false
namespace aP
open Go
inductive Stop(jh:String):Prop
inductive cR where
 |mk (p:Prop)
def cR.p:cR->Prop
 |.mk p=>p
abbrev bad(w:String):cR:=.mk (Stop w)
abbrev gl(p:Prop)(k:cR):cR:=.mk (p/\k.p)
abbrev gK{α:Type}(f:α->cR):cR:=.mk (∃x:α,(f x).p)
abbrev yu(c c':Prop)(a b:cR):cR:=.mk ((c->a.p)/\(c'->b.p))
inductive aF where
 |v (a:I)
 |o (a:I)
 |i_|j1
 |lt (i n:Nat)|le (i n:Nat)|eq (i n:Nat)
 |bP (s:aF)
 |kg (l:List aF)
 |fL (l:List aF)
def aF.kH:aF->Bool
 |.i_=>true
 |.j1=>false
 |.lt i n=>bM (.ofNat i) (.ofNat n)
 |.le i n=>fh (.ofNat i) (.ofNat n)
 |.eq i n=>a_ (.ofNat i) (.ofNat n)
 |.bP s=>!s.kH
 |.v (.bool b)=>b
 |_=>false
def aF.tL:aF->Bool
 |.i_|.j1|.lt _ _|.le _ _|.eq _ _|.bP _=>true
 |.v (.bool _)=>true
 |_=>false
mutual
def aF.den:aF->I
 |.v a=>a
 |.o a=>a
 |.i_=>.bool true
 |.j1=>.bool false
 |.lt i n=>.bool (bM (.ofNat i) (.ofNat n))
 |.le i n=>.bool (fh (.ofNat i) (.ofNat n))
 |.eq i n=>.bool (a_ (.ofNat i) (.ofNat n))
 |.bP s=>.bool (!s.kH)
 |.kg l=>.agg (aF.bZ l)
 |.fL l=>.aQ (aF.bZ l)
def aF.bZ:List aF->List I
 |[]=>[]
 |s::l=>s.den::aF.bZ l
end
def lx:I->aF
 |.bool true=>.i_
 |.bool false=>.j1
 |v=>.v v
abbrev c_:=List (Nat×aF)
def cW:c_->Env
 |[]=>[]
 |(t,s)::l=>(t,s.den)::cW l
def tM(t:Nat):c_->Option aF
 |[]=>none
 |(u,s)::l=>match Nat.beq t u with
  |true=>some s
  |false=>tM t l
def tN:Nat->List aF->Option aF
 |_,[]=>none
 |0,s::_=>some s
 |n+1,_::l=>tN n l
def tO:Nat->aF->List aF->List aF
 |_,_,[]=>[]
 |0,x,_::l=>x::l
 |n+1,x,s::l=>s::tO n x l
def Bm(t:Nat)(x:aF):c_->c_
 |[]=>[]
 |(u,s)::l=>match Nat.beq t u with
  |true=>(u,x)::l
  |false=>(u,s)::Bm t x l
def l9(m:Nat)(env:List aF)(Γ:c_):Acc->Option aF
 |.env j=>match Nat.blt j m with
  |true=>tN (m-1-j) env
  |false=>none
 |.reg p=>tM p.num Γ
 |.val v=>some (lx v)
def vH(m:Nat)(a:Acc)(b:aF)(env:List aF):List aF:=match a with
 |.env j=>tO (m-1-j) b env
 |_=>env
def tP(a:Acc)(b:aF)(Γ:c_):c_:=match a with
 |.reg p=>Bm p.num b Γ
 |_=>Γ
def aF.l_(s:aF)(K:aF->cR):cR:=match s with
 |.v a=>K (.v a)
 |.o a=>K (.o a)
 |.i_=>K .i_
 |.j1=>K .j1
 |.lt i n=>K (.lt i n)
 |.le i n=>K (.le i n)
 |.eq i n=>K (.eq i n)
 |.bP s=>K (.bP s)
 |.kg l=>K (.kg l)
 |.fL l=>K (.fL l)
def r4:List aF->(List aF->cR)->cR
 |[],K=>K []
 |s::l,K=>s.l_ λs=>r4 l λl=>K (s::l)
def nM:c_->(c_->cR)->cR
 |[],K=>K []
 |(t,s)::l,K=>s.l_ λs=>nM l λl=>K ((t,s)::l)
inductive kh where
 |ty (t:TypeId)
 |is (v:I)|io (v:I)
 |z (k:IntKind)
 |n (k:IntKind)
 |o
 |p|Kt
 |st|b
 |fY|Ku (c:b3)
 |fL (l:List kh)|kg (l:List kh)
 |Kv (t:TypeId) (s:kh)
 |fn (f:Nat) (k:Nat)
inductive pG where
 |bA (s:kh)
 |t|f
 |p (s:kh)
 |e (r:Option kh) (s:kh)
 |gT (ins:List Nat) (outs:List (bn×List (Nat×kh)))
def EK:List aF->List aF
 |[]=>[]
 |.kg l::r=>l++EK r
 |s::r=>s::EK r
abbrev kI:=List (Nat×pG)
def tQ(k:Nat):kI->Option pG
 |[]=>none
 |(j,o)::l=>match Nat.beq k j with
  |true=>some o
  |false=>tQ k l
mutual
def shape(P:Program):Nat->kh->(aF->cR)->cR
 |0,_,_=>bad "shape"
 |n+1,s,K=>match s with
  |.is v=>K (lx v)
  |.io v=>K (.o v)
  |.z k=>gK λx:Int=>K (.o (.int k x))
  |.n k=>gK λx:Nat=>K (.v (.int k (.ofNat x)))
  |.o=>gK λx:I=>K (.o x)
  |.p=>gK λx:Nat=>K (.v (.ptr x 0))
  |.Kt=>gK λx:Nat=>gK λy:Nat=>K (.v (.ptr x y))
  |.st=>gK λx:List UInt8=>K (.v (.str x))
  |.b=>gK λx:Bool=>K (.v (.bool x))
  |.fY=>gK λx:Nat=>gK λy:Nat=>gK λz:Nat=>gK λc:b3=>K (.v (.slice x y z c))
  |.Ku c=>gK λx:Nat=>gK λz:Nat=>K (.v (.slice x 0 z c))
  |.fL l=>r5 P n l λr=>K (.fL r)
  |.kg l=>r5 P n l λr=>K (.kg r)
  |.Kv t s=>shape P n s λx=>K (.v (.iface t x.den))
  |.fn f k=>gK λx:List I=>K (.v (.fn f [] x))
  |.ty t=>match P.underlying t with
   |some .bool=>gK λx:Bool=>K (.v (.bool x))
   |some (.int k)=>gK λx:Nat=>K (.v (.int k (.ofNat x)))
   |some .string=>gK λx:List UInt8=>K (.v (.str x))
   |some (.pointer _)=>gK λx:Nat=>K (.v (.ptr x 0))
   |some (.struct bV)=>r5 P n (bV.toList.map λf=>.ty f.type) λr=>K (.kg (EK r))
   |some (.tuple ck)=>r5 P n (ck.toList.map .ty) λr=>K (.fL r)
   |some .invalid=>K (.v (.aQ []))
   |some _=>gK λx:I=>K (.o x)
   |none=>K (.v (.aQ []))
def r5(P:Program):Nat->List kh->(List aF->cR)->cR
 |0,_,_=>bad "shapes"
 |n+1,l,K=>match l with
  |[]=>K []
  |s::l=>shape P n s λx=>r5 P n l λr=>K (x::r)
end
def aF.hW(eD:Option Bool)(A B:cR):aF->cR
 |.i_=>A
 |.j1=>B
 |.lt i n=>match eD with
  |none=>yu (i<n) (¬i<n) A B
  |some true=>gl (i<n) A
  |some false=>gl (¬i<n) B
 |.le i n=>match eD with
  |none=>yu (i<=n) (¬i<=n) A B
  |some true=>gl (i<=n) A
  |some false=>gl (¬i<=n) B
 |.eq i n=>match eD with
  |none=>yu (i=n) (¬i=n) A B
  |some true=>gl (i=n) A
  |some false=>gl (¬i=n) B
 |.bP s=>s.hW (match eD with|none=>none|some b=>some (!b)) B A
 |.v (.bool x)=>match eD with
  |none=>yu (x=true) (x=false) A B
  |some true=>gl (x=true) A
  |some false=>gl (x=false) B
 |_=>bad "choice"
def Bn(o:Option pG):Option Bool:=match o with
 |some .t=>some true
 |some .f=>some false
 |_=>none
def EL(o:Option pG)(t:TypeId):kh:=match o with
 |some (.bA s)=>s
 |_=>.ty t
def EM(op:BinOp)(x y:aF):Option aF:=match x,y with
 |.v (.int k (.ofNat a)),.v (.int ej (.ofNat b))=>match decide (k=ej) with
  |true=>match op with
   |.lss=>some (.lt a b)
   |.leq=>some (.le a b)
   |.gtr=>some (.lt b a)
   |.geq=>some (.le b a)
   |.eql=>some (.eq a b)
   |.neq=>some (.bP (.eq a b))
   |_=>none
  |false=>none
 |_,_=>none
def EN(op:BinOp)(x y:aF):Option (Prop×I):=match x,y with
 |.v (.int k (.ofNat a)),.v (.int ej (.ofNat b))=>match decide (k=ej),op,k with
  |true,.add,.i64=>some (a+b<9223372036854775808,.int .i64 (.ofNat (a+b)))
  |true,.sub,.i64=>some (b<=a/\a<9223372036854775808,.int .i64 (.ofNat (a-b)))
  |true,.mul,.i64=>some (a*b<9223372036854775808,.int .i64 (.ofNat (a*b)))
  |true,.add,.u64=>some (a+b<18446744073709551616,.int .u64 (.ofNat (a+b)))
  |true,.sub,.u64=>some (b<=a/\a<18446744073709551616,.int .u64 (.ofNat (a-b)))
  |_,_,_=>none
 |.v (.str a),.v (.str b)=>match op with
  |.add=>some (a.length+b.length<=1000000000000,.str (a++b))
  |_=>none
 |_,_=>none
def tR:aF->List I
 |.o a=>[a]
 |s=>s.den.cells
def tS:List aF->cR->cR
 |[],K=>K
 |.o a::l,K=>gl (a.cT=true) (tS l K)
 |_::l,K=>tS l K
def tT:List aF->Bool
 |[]=>true
 |.o _::l=>tT l
 |s::l=>s.den.cT&&tT l
def vI(s:aF)(K:cR):cR:=match s with
 |.o a=>gl (a.cT=true) K
 |.kg l=>match tT l with
  |true=>tS l K
  |false=>bad "cells"
 |s=>match s.den.cells.all I.cT with
  |true=>K
  |false=>bad "cells"
def mW:aF->List aF
 |.kg l=>l
 |.v (.agg cs)=>cs.map lx
 |s=>[s]
def aF.EO:aF->Bool
 |.o _=>true
 |_=>false
def tU(place:Nat->Option (Nat×Nat)):List aF->List (Nat×aF)->Option (List aF)
 |cells,[]=>some cells
 |cells,(i,s)::rest=>match place i with
  |none=>none
  |some (off,size)=>match Nat.beq (mW s).length size&&Nat.ble (off+size) cells.length with
   |true=>tU place (cells.take off++mW s++(cells.drop off).drop (mW s).length) rest
   |false=>none
def nN:List (Nat×aF)->List aF
 |[]=>[]
 |(_,s)::l=>mW s++nN l
def Bo(P:Program)(t:TypeId)(len:Nat)(ps:List (Nat×aF))(K:TypeId->List aF->cR):cR:=match P.underlying t with
 |some (.slice e)=>match dn P e,ei P e with
  |some sz,some z=>match Nat.ble (len*sz) 16777216&&Nat.beq z.cells.length sz,(if len*sz=0 then[] else fi len z.cells).all I.cT,tU (λi=>some (i*sz,sz)) ((if len*sz=0 then[] else fi len z.cells).map lx) ps,tT (nN ps) with
   |true,true,some cs,true=>tS (nN ps) (r4 cs λcs=>K e cs)
   |_,_,_,_=>bad "buildSlice"
  |_,_=>bad "buildSlice"
 |_=>bad "buildSlice"
def e0(a b:Bool):Bool:=a==b
def EP(P:Program)(op:BinOp)(t:TypeId)(x y:aF):Option aF:=match x.tL&&y.tL,P.underlying t,op with
 |true,some .bool,.eql=>some (.v (.bool (e0 x.kH y.kH)))
 |true,some .bool,.neq=>some (.bP (.v (.bool (e0 x.kH y.kH))))
 |_,_,_=>none
def Tm(x y:aF):Bool:=match x,y with
 |.v (.ptr _ _),.v .bb|.v .bb,.v .bb|.v (.slice _ _ _ _),.v .a0|.v .a0,.v .a0|.v (.iface _ _),.v .e1|.v .e1,.v .e1=>true
 |_,_=>false
section
variable (P:Program) (inR:Bool) (call:aI->List I->J->av)
abbrev pH:=aF->List bU->bF->J->cR
abbrev pI:=I->List bU->bF->J->cR
def Bp(eD:Option pG)(t:TypeId)(f:aI)(args:List I)(d:List bU)(q:bF)(h:J)(K:pH)(bW:pI):cR:=match eD with
 |some (.p s)=>shape P 9 s λx=>gK λg:J=>gl (call f args h=.b6 x.den g) (bW x.den d q g)
 |some (.e r s)=>.mk ((shape P 9 (match r with|some r=>r|none=>.ty t) λx=>gK λg:J=>gl (call f args h=.ret x.den g) (K x d q g)).p\/(shape P 9 s λx=>gK λg:J=>gl (call f args h=.b6 x.den g) (bW x.den d q g)).p)
 |eD=>shape P 9 (EL eD t) λx=>gK λg:J=>gl (call f args h=.ret x.den g) (K x d q g)
def qP(eD:Option pG)(o:Oper)(g:Operand->aF)(d:List bU)(q:bF)(h:J)(K:pH)(bW:pI):cR:=
 match Ej o (λx=>(g x).den) with
 |0=>match cH P o (λx=>(g x).den) h with
  |.val v an=>match eD with
   |some (.bA .o)=>K (.o v) d q an
   |_=>K (.v v) d q an
  |.b6 v an=>bW v d q an
  |.call f args an=>Bp P call eD o.type (.fn f) args d q an K bW
  |.dh l args an=>Bp P call eD o.type (.dh l) args d q an K bW
  |.ll x=>match inR with
   |true=>bad "defer"
   |false=>K (.v (.aQ [])) (x::d) q h
  |.sS=>match inR with
   |true=>bad "recover"
   |false=>match q with
    |.none=>K (.v .e1) d .none h
    |.done v=>K (.v .e1) d (.done v) h
    |.act v=>K (.v v) d (.done v) h
  |.fail w=>bad w
 |1=>shape P 9 (EL eD o.type) λx=>gl (oA P o (λy=>(g y).den) h x.den) (K x d q h)
 |_=>shape P 9 (EL eD o.type) λx=>gK λan:J=>gl (vw P o (λy=>(g y).den) h x.den an) (K x d q an)
def ER(eD:Option pG)(o:Oper)(g:Operand->aF)(d:List bU)(q:bF)(h:J)(K:pH)(bW:pI):cR:=match o.op with
 |.move x|.assign x=>(g x).l_ λs=>K s d q h
 |.unOp .not _ x=>match(g x).tL with
  |true=>(g x).l_ λs=>K (.bP s) d q h
  |false=>bad "not"
 |.binOp op t x y _=>(g x).l_ λu=>(g y).l_ λw=>match(match EM op u w with|some s=>some s|none=>EP P op t u w) with
  |some s=>K s d q h
  |none=>match Tm u w with
   |true=>match eJ P h op t x y u.den w.den with
    |some v=>(lx v).l_ λs=>K s d q h
    |none=>bad "nil"
   |false=>match(match eD with|none=>EN op u w|some _=>none) with
    |some (p,v)=>gl p (K (.v v) d q h)
    |none=>qP P inR call eD o g d q h K bW
 |.extract x i=>match g x with
  |.fL l=>match tN i l with
   |some s=>s.l_ λs=>K s d q h
   |none=>bad "extract"
  |_=>qP P inR call eD o g d q h K bW
 |.indexAddr t x i=>match P.underlying t,g x,eK (g i).den with
  |some (.array m e),.v (.ptr b off),some n=>match dn P e with
   |some sz=>gl (n<m) (K (.v (.ptr b (off+n*sz))) d q h)
   |none=>bad "indexAddr"
  |some (.slice e),.v (.slice b off m c),some n=>match dn P e with
   |some sz=>gl (n<m) (K (.v (.ptr b (off+n*sz))) d q h)
   |none=>bad "indexAddr"
  |_,_,_=>bad "indexAddr of what"
 |.store t a x=>match(g a).den,dn P t with
  |.ptr b off,some n=>match Nat.beq (tR (g x)).length n with
   |true=>(g x).l_ λs=>vI s (gK λf_:J=>gl (storeCells h b off (tR s)=some f_) (K (.v (.aQ [])) d q f_))
   |false=>bad "store size"
  |_,_=>bad "store"
 |.build t parts=>match(nN (parts.toList.map λp=>(p.1,g p.2))).any aF.EO with
  |false=>qP P inR call eD o g d q h K bW
  |true=>match ei P t,P.underlying t with
   |some z,some (.struct bV)=>match bV.toList.all (λf=>(dn P f.type).isSome),tU (λi=>(bV[i]?).map λf=>(f.offset,P.cellsOf f.type)) (z.cells.map lx) (parts.toList.map λp=>(p.1,g p.2)),tT (nN (parts.toList.map λp=>(p.1,g p.2))) with
    |true,some cs,true=>tS (nN (parts.toList.map λp=>(p.1,g p.2))) (r4 cs λcs=>K (.kg cs) d q h)
    |_,_,_=>bad "build"
   |_,_=>bad "build of what"
 |.buildSlice t len parts=>match(nN (parts.toList.map λp=>(p.1,g p.2))).any aF.EO with
  |false=>qP P inR call eD o g d q h K bW
  |true=>Bo P t len (parts.toList.map λp=>(p.1,g p.2)) λe cs=>K (.v (.slice h.n 0 len (.exact len))) d q (h.push (.cells (aF.bZ cs) e .own 0 0))
 |.box e x=>(g x).l_ λs=>vI s (K (.v (.ptr h.n 0)) d q (h.push (.cells (tR s) e .own 0 0)))
 |.call c=>match c.callee with
  |.builtin .len=>match c.args.toList.map g,c.argTypes[0]? with
   |[.o a],some t=>gK λn:Nat=>gl (cc P h t a=some (.int .i64 (.ofNat n))) (K (.v (.int .i64 (.ofNat n))) d q h)
   |_,_=>qP P inR call eD o g d q h K bW
  |_=>qP P inR call eD o g d q h K bW
 |_=>qP P inR call eD o g d q h K bW
end
end aP
namespace aP
open Go
theorem aF.pJ{s:aF}(h:s.tL=true):s.den=.bool s.kH:=by
 cases s with
 |v a=>cases a<;>first|rfl|cases h
 |o a=>cases h
 |kg l=>cases h
 |fL l=>cases h
 |i_=>rfl
 |j1=>rfl
 |lt i n=>rfl
 |le i n=>rfl
 |eq i n=>rfl
 |bP s=>rfl
theorem yv(a:I):(lx a).den=a:=by
 unfold lx;split<;>rfl
theorem ES:∀(n:Nat) (l:List aF),(tN n l).map aF.den=nth n (aF.bZ l)
 |0,[]=>rfl
 |_+1,[]=>rfl
 |0,x::l=>rfl
 |n+1,x::l=>ES n l
theorem Kw(n:Nat)(l:List aF)(s:aF)(h:tN n l=some s):nth n (aF.bZ l)=some s.den:=by
 rw[<-ES,h];rfl
theorem Kx(t:Nat):∀Γ:c_,(tM t Γ).map aF.den=ee t (cW Γ)
 |[]=>rfl
 |(u,x)::l=>by
  simp only[tM,cW,ee]
  cases ae:Nat.beq t u with
  |true=>rfl
  |false=>exact Kx t l
def g9(m:Nat)(l:List I)(G:Env):Acc->Option I
 |.env j=>match Nat.blt j m with
  |true=>nth (m-1-j) l
  |false=>none
 |.reg p=>ee p.num G
 |.val v=>some v
theorem vJ(m:Nat)(env:List aF)(Γ:c_)(a:Acc):(l9 m env Γ a).map aF.den=g9 m (aF.bZ env) (cW Γ) a:=by
 cases a with
 |env j=>
  simp only[l9,g9]
  cases Nat.blt j m with
  |true=>exact ES _ _
  |false=>rfl
 |reg p=>exact Kx _ _
 |val v=>simp only[l9,g9,Option.map_some,yv]
theorem vK{m:Nat}{l:List I}{G:Env}{r:aY}(hm:Mod r G){a:Acc}{v:I}(h:g9 m l G a=some v):dx m l r a=v:=by
 cases a with
 |env j=>
  simp only[g9] at h
  split at h
  · simp only[dx,h,Option.getD_some]
  · cases h
 |reg p=>simp only[g9] at h;simp only[dx];rw[<-J2 p];exact hm _ _ h
 |val x=>cases h;rfl
theorem yw{m:Nat}{l:List I}{G:Env}{a:Acc}{v:I}(x:I)(h:g9 m l G a=some v):g9 (m+1) (x::l) G a=some v:=by
 cases a with
 |env j=>
  simp only[g9] at h⊢
  split at h
  · rename_i ae
    have aJ:j<m:=by simpa using ae
    have fB:Nat.blt j (m+1)=true:=by simp;omega
    rw[fB]
    have:m+1-1-j=(m-1-j)+1:=by omega
    rw[this];exact h
  · cases h
 |reg p=>exact h
 |val x=>exact h
theorem Ky(x:aF):∀(n:Nat) (l:List aF),(∀s,tN n l=some s->s.den=x.den)->aF.bZ (tO n x l)=aF.bZ l
 |0,[],_=>rfl
 |_+1,[],_=>rfl
 |0,s::l,h=>by simp only[tO,aF.bZ,h s rfl]
 |n+1,s::l,h=>by simp only[tO,aF.bZ];rw[Ky x n l h]
theorem Kz(x:aF):∀(n:Nat) (l:List aF),(tO n x l).length=l.length
 |0,[]=>rfl
 |_+1,[]=>rfl
 |0,s::l=>rfl
 |n+1,s::l=>by simp only[tO,List.length_cons,Kz x n l]
theorem KA(t:Nat)(x:aF):∀Γ:c_,(∀s,tM t Γ=some s->s.den=x.den)->cW (Bm t x Γ)=cW Γ
 |[],_=>rfl
 |(u,s)::l,h=>by
  simp only[Bm]
  simp only[tM] at h
  cases ae:Nat.beq t u with
  |true=>rw[ae] at h;simp only[cW,h s rfl]
  |false=>rw[ae] at h;simp only[cW];rw[KA t x l h]
theorem vL{m:Nat}{env:List aF}{Γ:c_}{a:Acc}{s x:aF}(h:l9 m env Γ a=some s)(e:s.den=x.den):aF.bZ (vH m a x env)=aF.bZ env/\cW (tP a x Γ)=cW Γ/\(vH m a x env).length=env.length:=by
 cases a with
 |env j=>
  simp only[l9] at h
  split at h
  · exact⟨Ky x _ _ λbc hs=>by rw[h] at hs;cases hs;exact e,rfl,Kz _ _ _⟩
  · cases h
 |reg p=>exact⟨rfl,KA _ _ _ λbc hs=>by rw[show tM p.num Γ=some s from h] at hs;cases hs;exact e,rfl⟩
 |val v=>exact⟨rfl,rfl,rfl⟩
theorem aF.ma{s:aF}{K:aF->cR}(h:(s.l_ K).p):(K s).p:=by cases s<;>exact h
theorem tV:∀{l:List aF} {K:List aF->cR},(r4 l K).p->(K l).p
 |[],_,h=>h
 |s::l,K,h=>tV (l:=l) (aF.ma h)
theorem oE:∀{l:c_} {K:c_->cR},(nM l K).p->(K l).p
 |[],_,h=>h
 |(t,s)::l,K,h=>oE (l:=l) (aF.ma h)
theorem KB{P:Program}:∀(n:Nat),(∀(s:kh) (K:aF->cR),(shape P n s K).p->∃x,(K x).p)/\(∀(l:List kh) (K:List aF->cR),(r5 P n l K).p->∃x,(K x).p)
 |0=>⟨λs K h=>(by simp only[shape] at h;cases h),λl K h=>(by simp only[r5] at h;cases h)⟩
 |n+1=>by
  obtain⟨ab,ad⟩:=KB (P:=P) n
  refine⟨λs K h=>?_,λl K h=>?_⟩
  · simp only[shape] at h
    cases s with
    |is v=>exact⟨_,h⟩
    |io v=>exact⟨_,h⟩
    |z k=>obtain⟨x,h⟩:=h;exact⟨_,h⟩
    |n k=>obtain⟨x,h⟩:=h;exact⟨_,h⟩
    |o=>obtain⟨x,h⟩:=h;exact⟨_,h⟩
    |p=>obtain⟨x,h⟩:=h;exact⟨_,h⟩
    |Kt=>obtain⟨x,y,h⟩:=h;exact⟨_,h⟩
    |st=>obtain⟨x,h⟩:=h;exact⟨_,h⟩
    |b=>obtain⟨x,h⟩:=h;exact⟨_,h⟩
    |fY=>obtain⟨x,y,z,c,h⟩:=h;exact⟨_,h⟩
    |Ku c=>obtain⟨x,z,h⟩:=h;exact⟨_,h⟩
    |fL l=>obtain⟨r,h⟩:=ad _ _ h;exact⟨_,h⟩
    |kg l=>obtain⟨r,h⟩:=ad _ _ h;exact⟨_,h⟩
    |Kv t s=>obtain⟨r,h⟩:=ab _ _ h;exact⟨_,h⟩
    |fn f k=>obtain⟨x,h⟩:=h;exact⟨_,h⟩
    |ty t=>
     simp only at h
     split at h
     · obtain⟨x,h⟩:=h;exact⟨_,h⟩
     · obtain⟨x,h⟩:=h;exact⟨_,h⟩
     · obtain⟨x,h⟩:=h;exact⟨_,h⟩
     · obtain⟨x,h⟩:=h;exact⟨_,h⟩
     · obtain⟨r,h⟩:=ad _ _ h;exact⟨_,h⟩
     · obtain⟨r,h⟩:=ad _ _ h;exact⟨_,h⟩
     · exact⟨_,h⟩
     · obtain⟨x,h⟩:=h;exact⟨_,h⟩
     · exact⟨_,h⟩
  · simp only[r5] at h
    cases l with
    |nil=>exact⟨_,h⟩
    |cons s l=>
     obtain⟨x,h⟩:=ab _ _ h
     obtain⟨r,h⟩:=ad _ _ h
     exact⟨_,h⟩
theorem tW{P:Program}{n:Nat}{s:kh}{K:aF->cR}(h:(shape P n s K).p):∃x,(K x).p:=(KB n).1 s K h
theorem ET{p:Prop}{A B:cR}{eD:Option Bool}(h:(match eD with
  |none=>yu p (¬p) A B
  |some true=>gl p A
  |some false=>gl (¬p) B).p):(p/\A.p)\/(¬p/\B.p):=by
 cases eD with
 |none=>by_cases aK:p
        · exact .inl ⟨aK,h.1 aK⟩
        · exact .inr ⟨aK,h.2 aK⟩
 |some b=>cases b with
  |true=>exact .inl h
  |false=>exact .inr h
theorem Bq:∀(s:aF) {eD:Option Bool} {A B:cR},(s.hW eD A B).p->s.tL=true/\((s.kH=true/\A.p)\/(s.kH=false/\B.p))
 |.i_,_,_,_,h=>⟨rfl,.inl ⟨rfl,h⟩⟩
 |.j1,_,_,_,h=>⟨rfl,.inr ⟨rfl,h⟩⟩
 |.lt i n,eD,A,B,h=>by
  refine⟨rfl,?_⟩
  rcases ET (p:=i<n) h with⟨ab,ad⟩|⟨ab,ad⟩
  · exact .inl ⟨dT ab,ad⟩
  · exact .inr ⟨eZ ab,ad⟩
 |.le i n,eD,A,B,h=>by
  refine⟨rfl,?_⟩
  rcases ET (p:=i<=n) h with⟨ab,ad⟩|⟨ab,ad⟩
  · exact .inl ⟨mT ab,ad⟩
  · exact .inr ⟨oC ab,ad⟩
 |.eq i n,eD,A,B,h=>by
  refine⟨rfl,?_⟩
  rcases ET (p:=i=n) h with⟨ab,ad⟩|⟨ab,ad⟩
  · exact .inl ⟨mU ab,ad⟩
  · exact .inr ⟨jw ab,ad⟩
 |.bP s,eD,A,B,h=>by
  refine⟨rfl,?_⟩
  simp only[aF.hW] at h
  obtain⟨_,ad⟩:=Bq s h
  simp only[aF.kH]
  rcases ad with⟨e,k⟩|⟨e,k⟩
  · right;exact⟨by rw[e];rfl,k⟩
  · left;exact⟨by rw[e];rfl,k⟩
 |.v a,eD,A,B,h=>by
  cases a<;>simp only[aF.hW] at h<;>first|(cases h;done)|skip
  rename_i x
  refine⟨rfl,?_⟩
  simp only[aF.kH]
  cases x with
  |true=>left;refine⟨rfl,?_⟩;cases eD with
   |none=>exact h.1 rfl
   |some b=>cases b with
    |true=>exact h.2
    |false=>cases h.1
  |false=>right;refine⟨rfl,?_⟩;cases eD with
   |none=>exact h.2 rfl
   |some b=>cases b with
    |true=>cases h.1
    |false=>exact h.2
 |.o a,_,_,_,h=>by simp only[aF.hW] at h;cases h
 |.kg l,_,_,_,h=>by simp only[aF.hW] at h;cases h
 |.fL l,_,_,_,h=>by simp only[aF.hW] at h;cases h
section
variable {P:Program} {inR:Bool} {call:aI->List I->J->av}
def ib(x:xb)(K:pH)(bW:pI):Prop:=(∃s d q h,x=.ok (aF.den s) d q h/\(K s d q h).p)\/∃v d q h,x=.b6 v d q h/\(bW v d q h).p
theorem ib.val{o:Oper}{g:Operand->I}{d:List bU}{q:bF}{h an:J}{K:pH}{bW:pI}{s:aF}(e:cH P o g h=.val s.den an)(k:(K s d q an).p):ib (dO P inR call none o g d q h) K bW:=
 .inl ⟨s,d,q,an,by simp only[dO,ew,e],k⟩
theorem yx{K:cR}:∀(l:List aF),tT l=true->(tS l K).p->(aF.bZ l).all I.cT=true/\K.p
 |[],_,h=>⟨rfl,h⟩
 |x::l,aq,h=>by
  cases x with
  |o a=>
   obtain⟨ab,ad⟩:=h
   obtain⟨bH,bY⟩:=yx l aq ad
   exact⟨by simp only[aF.bZ,List.all_cons,aF.den,ab,bH,Bool.and_self],bY⟩
  |_=>
   simp only[tT,Bool.and_eq_true] at aq
   simp only[tS] at h
   obtain⟨bH,bY⟩:=yx l aq.2 h
   exact⟨by simp only[aF.bZ,List.all_cons,aq.1,bH,Bool.and_self],bY⟩
theorem EU{s:aF}{K:cR}(h:(vI s K).p):s.den.cells=tR s/\(tR s).all I.cT=true/\K.p:=by
 cases s with
 |o a=>
  obtain⟨ab,ad⟩:=h
  refine⟨?_,by simp[tR,ab],ad⟩
  show a.cells=[a]
  cases a<;>first|rfl|cases ab
 |kg l=>
  simp only[vI] at h
  split at h
  · rename_i aq;exact⟨rfl,yx l aq h⟩
  · cases h
 |_=>
  simp only[vI] at h
  split at h
  · rename_i aq;exact⟨rfl,aq,h⟩
  · cases h
theorem ly:∀l:List aF,aF.bZ l=l.map aF.den
 |[]=>rfl
 |s::l=>by simp only[aF.bZ,List.map_cons,ly l]
theorem Tn{s:aF}(h:(aF.bZ (mW s)).all I.cT=true):s.den.cells=aF.bZ (mW s)/\s.den≠ .bad:=by
 have one:∀a:I,a.cT=true->a.cells=[a]/\a≠ .bad:=λa aT=>by cases a<;>first|(cases aT;done)|exact⟨rfl,λh=>by cases h⟩
 have key:mW s=[s]->s.den.cells=aF.bZ (mW s)/\s.den≠ .bad:=λe=>by
  rw[e] at h⊢
  simp only[aF.bZ,List.all_cons,List.all_nil,Bool.and_true] at h⊢
  exact one _ h
 cases s with
 |kg l=>exact⟨rfl,nofun⟩
 |v a=>
  cases a with
  |agg cs=>
   refine⟨?_,nofun⟩
   show cs=aF.bZ (cs.map lx)
   rw[ly,List.map_map]
   have:aF.den∘lx=id:=funext yv
   rw[this,List.map_id]
  |_=>exact key rfl
 |_=>exact key rfl
theorem To{place:Nat->Option (Nat×Nat)}{cells:List I}{i:Nat}{v:I}{rest:List (Nat×I)}{off size:Nat}(aC:v≠ .bad)(aK:place i=some (off,size))(ae:(Nat.beq v.cells.length size&&Nat.ble (off+size) cells.length)=true){cs:List I}(ag:fT off v.cells cells=some cs):jT place cells ((i,v)::rest)=jT place cs rest:=by
 cases v<;>first|exact absurd rfl aC|simp only[jT,aK,ae,ag]
theorem EV{place:Nat->Option (Nat×Nat)}:∀(ps:List (Nat×aF)) (cells cs:List aF),tU place cells ps=some cs->(aF.bZ (nN ps)).all I.cT=true->jT place (aF.bZ cells) (ps.map λp=>(p.1,p.2.den))=some (aF.bZ cs)
 |[],cells,cs,h,_=>by cases h;rfl
 |(i,s)::rest,cells,cs,h,aT=>by
  simp only[nN,ly,List.map_append,List.all_append,Bool.and_eq_true] at aT
  rw[<-ly,<-ly] at aT
  obtain⟨bH,bY⟩:=Tn aT.1
  simp only[tU] at h
  split at h
  · cases h
  · rename_i off size aK
    split at h
    · rename_i ae
      have aw:(aF.bZ (mW s)).length=(mW s).length:=by rw[ly,List.length_map]
      have ag:(aF.bZ cells).length=cells.length:=by rw[ly,List.length_map]
      have fB:=ae
      simp only[Bool.and_eq_true,Nat.ble_eq] at fB
      have bx:=Nat.eq_of_beq_eq_true fB.1
      have xp:fT off s.den.cells (aF.bZ cells)=some (aF.bZ (cells.take off++mW s++(cells.drop off).drop (mW s).length)):=by
       have:=yo ((aF.bZ cells).take off) (aF.bZ (mW s)) ((aF.bZ cells).drop off) aT.1 (by simp;omega)
       rw[List.length_take,Nat.min_eq_left (by omega),List.take_append_drop] at this
       rw[bH,this,aw]
       simp only[ly,List.map_append,List.map_take,List.map_drop,List.append_assoc]
      rw[List.map_cons,To bY aK (by rw[bH,aw,ag];exact ae) xp]
      exact EV rest _ cs h aT.2
    · cases h
theorem KC{place:Nat->Option (Nat×Nat)}:∀(ps:List (Nat×aF)) (cells cs:List aF),tU place cells ps=some cs->(aF.bZ cells).all I.cT=true->(aF.bZ (nN ps)).all I.cT=true->(aF.bZ cs).all I.cT=true
 |[],cells,cs,h,ag,_=>by cases h;exact ag
 |(i,s)::rest,cells,cs,h,ag,aT=>by
  simp only[nN,ly,List.map_append,List.all_append,Bool.and_eq_true] at aT
  rw[<-ly,<-ly] at aT
  simp only[tU] at h
  split at h
  · cases h
  · split at h
    · refine KC rest _ cs h ?_ aT.2
      rw[ly] at ag⊢
      rw[List.all_eq_true] at ag⊢
      have ab:=aT.1
      rw[ly,List.all_eq_true] at ab
      intro x aa
      rw[List.map_append,List.map_append,List.mem_append,List.mem_append] at aa
      rcases aa with(aa|aa)|aa
      · rw[List.map_take] at aa;exact ag x (List.mem_of_mem_take aa)
      · exact ab x aa
      · rw[List.map_drop,List.map_drop] at aa;exact ag x (List.mem_of_mem_drop (List.mem_of_mem_drop aa))
    · cases h
theorem KD{t:TypeId}{len:Nat}{ps:List (Nat×aF)}{K:TypeId->List aF->cR}(h:(Bo P t len ps K).p):∃e sz z cs,P.underlying t=some (.slice e)/\dn P e=some sz/\ei P e=some z/\(Nat.ble (len*sz) 16777216&&Nat.beq z.cells.length sz)=true/\jT (λi=>some (i*sz,sz)) (if len*sz=0 then[] else fi len z.cells) (ps.map λp=>(p.1,p.2.den))=some (aF.bZ cs)/\(aF.bZ cs).all I.cT=true/\(K e cs).p:=by
 unfold Bo at h
 split at h
 · rename_i e hu
   split at h
   · rename_i sz z hs a2
     split at h
     · rename_i cs ab ad ar aG
       obtain⟨cr,k⟩:=yx _ aG h
       have c9:aF.bZ ((if len*sz=0 then[] else fi len z.cells).map lx)=(if len*sz=0 then[] else fi len z.cells):=by rw[ly,List.map_map,show aF.den∘lx=id from funext yv,List.map_id]
       have hf:=EV _ _ _ ar cr
       have ag:=KC _ _ _ ar (by rw[c9];exact ad) cr
       rw[c9] at hf
       exact⟨e,sz,z,cs,hu,hs,a2,ab,hf,ag,tV k⟩
     · cases h
   · cases h
 · cases h
theorem KE{g:Operand->aF}(parts:Array (Nat×Operand)):(parts.toList.map λp=>(p.1,g p.2)).map (λp=>(p.1,p.2.den))=parts.toList.map λp=>(p.1,(g p.2).den):=by
 rw[List.map_map];rfl
theorem KF{eD:Option pG}{t:TypeId}{f:aI}{args:List I}{d:List bU}{q:bF}{h:J}{K:pH}{bW:pI}(aa:(Bp P call eD t f args d q h K bW).p):ib (xc d q (call f args h)) K bW:=by
 unfold Bp at aa
 split at aa
 · obtain⟨x,g,e,k⟩:=tW aa
   rw[e];exact .inr ⟨_,_,_,_,rfl,k⟩
 · rcases aa with aa|aa
   · obtain⟨x,g,e,k⟩:=tW aa
     rw[e];exact .inl ⟨_,_,_,_,rfl,k⟩
   · obtain⟨x,g,e,k⟩:=tW aa
     rw[e];exact .inr ⟨_,_,_,_,rfl,k⟩
 · obtain⟨x,g,e,k⟩:=tW aa
   rw[e];exact .inl ⟨_,_,_,_,rfl,k⟩
theorem tX{eD:Option pG}{o:Oper}{g:Operand->aF}{d:List bU}{q:bF}{h:J}{K:pH}{bW:pI}(aa:(qP P inR call eD o g d q h K bW).p):ib (dO P inR call none o (λx=>(g x).den) d q h) K bW:=by
 unfold qP at aa
 split at aa
 · split at aa
   · rename_i v an he
     split at aa
     · exact ib.val (s:=.o v) he aa
     · exact ib.val (s:=.v v) he aa
   · rename_i v an he
     exact .inr ⟨v,d,q,an,by simp only[dO,ew,he],aa⟩
   · rename_i f args an he
     have:=KF aa
     simpa only[dO,ew,he] using this
   · rename_i l args an he
     have:=KF aa
     simpa only[dO,ew,he] using this
   · rename_i x he
     split at aa
     · cases aa
     · exact .inl ⟨.v (.aQ []),_,_,_,by simp only[dO,ew,he];rfl,aa⟩
   · rename_i he
     split at aa
     · cases aa
     · split at aa
       · exact .inl ⟨.v .e1,_,_,_,by simp only[dO,ew,he];rfl,aa⟩
       · exact .inl ⟨.v .e1,_,_,_,by simp only[dO,ew,he];rfl,aa⟩
       · rename_i v
         exact .inl ⟨.v v,_,_,_,by simp only[dO,ew,he];rfl,aa⟩
   · cases aa
 · obtain⟨x,c,k⟩:=tW aa
   exact ib.val (tG c) k
 · obtain⟨x,an,c,k⟩:=tW aa
   exact ib.val (Eu c) k
theorem Tp{op:BinOp}{x y s:aF}(aa:EM op x y=some s)(h:J)(t:TypeId)(a b:Operand):eJ P h op t a b x.den y.den=some s.den:=by
 unfold EM at aa
 split at aa
 · rename_i k cA ej hS
   split at aa
   · rename_i aq
     obtain rfl:k=ej:=of_decide_eq_true aq
     split at aa<;>first|(cases aa;done)|(cases aa;simp only[aF.den,eJ,arith,if_true,aF.kH])
   · cases aa
 · cases aa
theorem Tq{op:BinOp}{x y s:aF}{t:TypeId}(aa:EP P op t x y=some s)(h:J)(a b:Operand):eJ P h op t a b x.den y.den=some s.den:=by
 unfold EP at aa
 split at aa
 · rename_i ae hu
   rw[Bool.and_eq_true] at ae
   cases aa
   rw[aF.pJ ae.1,aF.pJ ae.2]
   simp only[eJ,q_,if_true,fU,hu,aF.den,e0]
 · rename_i ae hu
   rw[Bool.and_eq_true] at ae
   cases aa
   rw[aF.pJ ae.1,aF.pJ ae.2]
   simp only[eJ,q_,if_true,fU,hu,aF.den,aF.kH,e0]
 · cases aa
theorem Tr{op:BinOp}{x y:aF}{p:Prop}{v:I}(aa:EN op x y=some (p,v))(aK:p)(h:J)(t:TypeId)(a b:Operand):eJ P h op t a b x.den y.den=some v:=by
 unfold EN at aa
 split at aa
 · rename_i k cA ej hS
   split at aa
   · rename_i aq;cases aa;obtain rfl:=of_decide_eq_true aq
     simp only[aF.den,eJ,if_true];exact S8 aK
   · rename_i aq;cases aa;obtain rfl:=of_decide_eq_true aq
     simp only[aF.den,eJ,if_true];exact vF aK.1 aK.2
   · rename_i aq;cases aa;obtain rfl:=of_decide_eq_true aq
     simp only[aF.den,eJ,if_true];exact S9 aK
   · rename_i aq;cases aa;obtain rfl:=of_decide_eq_true aq
     simp only[aF.den,eJ,if_true];exact Ta aK
   · rename_i aq;cases aa;obtain rfl:=of_decide_eq_true aq
     simp only[aF.den,eJ,if_true];exact Tb aK.1 aK.2
   · cases aa
 · split at aa
   · cases aa
     simp only[aF.den,eJ];exact hG aK
   · cases aa
 · cases aa
theorem Ts{eD:Option pG}{o:Oper}{g:Operand->aF}{d:List bU}{q:bF}{h:J}{K:pH}{bW:pI}(aa:(ER P inR call eD o g d q h K bW).p):ib (dO P inR call none o (λx=>(g x).den) d q h) K bW:=by
 unfold ER at aa
 split at aa
 · rename_i x a4
   exact ib.val (s:=g x) (by simp only[cH,a4]) (aF.ma aa)
 · rename_i x a4
   exact ib.val (s:=g x) (by simp only[cH,a4]) (aF.ma aa)
 · rename_i t x a4
   split at aa
   · rename_i ae
     exact ib.val (s:=.bP (g x)) (by simp only[cH,a4,aF.pJ ae];rfl) (aF.ma aa)
   · cases aa
 · rename_i op t x y yt a4
   replace aa:=aF.ma (aF.ma aa)
   have key:∀{s:aF},eJ P h op t x y (g x).den (g y).den=some s.den->(K s d q h).p->ib (dO P inR call none o (λx=>(g x).den) d q h) K bW:=λ{s} e k=>ib.val (s:=s) (by simp only[cH,a4,e,fF]) k
   split at aa
   · rename_i s hs
     split at hs
     · rename_i bc dv;cases hs;exact key (Tp dv h t x y) aa
     · exact key (Tq hs h x y) aa
   · split at aa
     · split at aa
       · rename_i v aC;exact key (s:=lx v) (by rw[yv];exact aC) (aF.ma aa)
       · cases aa
     · split at aa
       · rename_i p v aK
         cases eD with
         |none=>exact key (s:=.v v) (Tr aK aa.1 h t x y) aa.2
         |some _=>cases aK
       · exact tX aa
 · rename_i x i a4
   split at aa
   · rename_i l aw
     split at aa
     · rename_i s hs
       exact ib.val (s:=s) (by simp only[cH,a4,aw,aF.den,Kw _ _ _ hs,fF]) (aF.ma aa)
     · cases aa
   · exact tX aa
 · rename_i t x i a4
   split at aa
   · rename_i m e b off n hu e4 af
     split at aa
     · rename_i sz a2
       exact ib.val (s:=.v (.ptr b (off+n*sz))) (by simp only[cH,a4,hu,e4,aF.den,af,a2,if_pos aa.1]) aa.2
     · cases aa
   · rename_i e b off m c n hu e4 af
     split at aa
     · rename_i sz a2
       exact ib.val (s:=.v (.ptr b (off+n*sz))) (by simp only[cH,a4,hu,e4,aF.den,af,a2,if_pos aa.1]) aa.2
     · cases aa
   · cases aa
 · rename_i t a x a4
   split at aa
   · rename_i b off n tY a2
     split at aa
     · rename_i aw
       obtain⟨aA,ay,f_,bw,k⟩:=EU (aF.ma aa)
       have ag:vw P o (λy=>(g y).den) h (.aQ []) f_:=by
        unfold vw
        rw[a4]
        simp only[tY]
        rw[aA]
        exact⟨by rw[a2,Nat.eq_of_beq_eq_true aw],bw,trivial⟩
       exact ib.val (s:=.v (.aQ [])) (Eu ag) k
     · cases aa
   · cases aa
 · rename_i t parts a4
   split at aa
   · exact tX aa
   · split at aa
     · rename_i z bV a2 hu
       split at aa
       · rename_i cs ab ad ar
         obtain⟨cr,k⟩:=yx _ ar aa
         have hf:=EV _ _ _ ad cr
         rw[show aF.bZ (z.cells.map lx)=z.cells by rw[ly,List.map_map,show aF.den∘lx=id from funext yv,List.map_id],List.map_map] at hf
         exact ib.val (s:=.kg cs) (by simp only[cH,a4,a2,hu,ab];exact by rw[show(parts.toList.map λp=>(p.1,(g p.2).den))=parts.toList.map ((λp=>(p.1,aF.den p.2))∘ λp=>(p.1,g p.2)) from rfl,hf];rfl) (tV k)
       · cases aa
     · cases aa
 · rename_i t len parts a4
   split at aa
   · exact tX aa
   · obtain⟨e,sz,z,cs,hu,hs,a2,ab,hf,ag,k⟩:=KD aa
     rw[KE] at hf
     exact ib.val (s:=.v (.slice h.n 0 len (.exact len))) (by simp only[cH,a4,hu,hs,a2,ab,hf,newRow,ag];rfl) k
 · rename_i e x a4
   obtain⟨aA,ay,k⟩:=EU (aF.ma aa)
   exact ib.val (s:=.v (.ptr h.n 0)) (by simp only[cH,a4,newRow,aA,ay];rfl) k
 · rename_i c a4
   split at aa
   · rename_i jt
     split at aa
     · rename_i a t aT ba
       obtain⟨n,e,k⟩:=aa
       have hF:c.args.toList.map (λy=>(g y).den)=[a]:=by
        have:(c.args.toList.map g).map aF.den=[a]:=by rw[aT];rfl
        rw[List.map_map] at this;exact this
       have ag:oA P o (λy=>(g y).den) h (.int .i64 (.ofNat n)):=by
        unfold oA
        rw[a4]
        simp only[jt,hF,ba]
        exact e
       exact ib.val (s:=.v (.int .i64 (.ofNat n))) (tG ag) k
     · exact tX aa
   · exact tX aa
 · exact tX aa
end
end aP
namespace aP
open Go
def keyOf(iu i:Nat)(o:Oper):Nat:=match o.dst with
 |some t=>t
 |none=>3000+50*iu+i
section
variable (P:Program) (need:Nat)
def k8(m:Nat)(env:List aF)(Γ:c_)(loc:List (Nat×Acc))(x:Operand):aF:=match l9 m env Γ (cJ P need loc x) with
 |some s=>s
 |none=>.v .bad
def Br(m:Nat)(env:List aF)(Γ:c_)(loc:List (Nat×Acc))(o:Oper):Bool:=o.op.operands.toList.all λx=>(l9 m env Γ (cJ P need loc x)).isSome
def Bs(eD:Option Bool)(gd:Option (Acc×Bool))(m:Nat)(env:List aF)(Γ:c_)(vM vN:List aF->c_->cR):cR:=match gd with
 |none=>vM env Γ
 |some (a,b)=>match l9 m env Γ a with
  |none=>bad "guard"
  |some s=>match s with
   |.v (.aQ [])=>vN env Γ
   |s=>s.hW eD (r4 (vH m a .i_ env) λenv=>nM (tP a .i_ Γ) λΓ=>(match b with|true=>vM env Γ|false=>vN env Γ)) (r4 (vH m a .j1 env) λenv=>nM (tP a .j1 Γ) λΓ=>(match b with|true=>vN env Γ|false=>vM env Γ))
variable (inR:Bool) (call:aI->List I->J->av)
def yy(pl:kI)(key m:Nat)(env:List aF)(Γ:c_)(loc:List (Nat×Acc))(o:Oper)(d:List bU)(q:bF)(h:J)(K:List aF->c_->pH)(bW:c_->pI):cR:=match o.op with
 |.pick c a b=>match l9 m env Γ (cJ P need loc c) with
  |none=>bad "pick"
  |some s=>s.hW (Bn (tQ (2000+key) pl)) (r4 (vH m (cJ P need loc c) .i_ env) λff=>nM (tP (cJ P need loc c) .i_ Γ) λcq=>(k8 P need m env Γ loc a).l_ λx=>K ff cq x d q h) (r4 (vH m (cJ P need loc c) .j1 env) λff=>nM (tP (cJ P need loc c) .j1 Γ) λcq=>(k8 P need m env Γ loc b).l_ λx=>K ff cq x d q h)
 |_=>ER P inR call (tQ key pl) o (k8 P need m env Γ loc) d q h (K env Γ) (bW Γ)
def yz(pl:kI)(iu:Nat):List Step->List aF->c_->List bU->bF->J->(List aF->c_->List bU->bF->J->cR)->(I->c_->List bU->bF->J->cR)->cR
 |[],env,Γ,d,q,h,K,_=>K env Γ d q h
 |s::rest,env,Γ,d,q,h,K,bW=>match Br P need s.m env Γ s.loc s.o with
  |false=>bad ("an operand " ++s.o.pos)
  |true=>Bs (Bn (tQ (1000+keyOf iu s.m s.o) pl)) s.guard s.m env Γ
   (λenv Γ=>yy P need inR call pl (keyOf iu s.m s.o) s.m env Γ s.loc s.o d q h (λenv Γ v d q h=>yz pl iu rest (v::env) Γ d q h K bW) (λΓ v d q h=>bW v Γ d q h))
   (λenv Γ=>yz pl iu rest (.v (.aQ [])::env) Γ d q h K bW)
def tZ(t:Nat):c_->c_
 |[]=>[]
 |(u,s)::l=>match Nat.beq t u with
  |true=>tZ t l
  |false=>(u,s)::tZ t l
def t_(m:Nat)(env:List aF)(gB:c_):List (Nat×Acc)->c_->c_
 |[],Γ=>Γ
 |(t,a)::l,Γ=>match Nat.testBit need t with
  |true=>match l9 m env gB a with
   |some s=>(t,s)::tZ t (t_ m env gB l Γ)
   |none=>tZ t (t_ m env gB l Γ)
  |false=>t_ m env gB l Γ
def yA:List (Nat×Acc)->c_->c_
 |[],Γ=>Γ
 |(t,_)::l,Γ=>tZ t (yA l Γ)
abbrev mX:=List (Nat×Nat×J×Nat)
def iv:mX->nI
 |[]=>[]
 |(e,m,h,_)::l=>(e,m,h)::iv l
def Bt(o:Oper)(g:Operand->aF):Bool:=match o.op with
 |.move _|.assign _|.pick .. |.build .. |.nilCheck _|.makeInterface .. |.makeFunc .. |.fieldAddr .. |.field .. |.indexAddr .. |.index .. |.extract .. |.typeAssert .. =>true
 |.unOp .. =>true
 |.binOp _ _ x y _=>match g x,g y with
  |.v (.int _ _),.v (.int _ _)=>true
  |.v (.str _),.v (.str _)=>true
  |x,y=>x.tL&&y.tL
 |.call c=>match c.callee with
  |.builtin .len=>match c.argTypes[0]? with
   |some t=>match P.underlying t with
    |some (.slice _)=>true
    |some .string=>true
    |_=>false
   |none=>false
  |_=>false
 |_=>false
def vO:List aF->cR->cR
 |[],K=>K
 |.o a::l,K=>gl (a.sound=true) (vO l K)
 |s::l,K=>match s.den.sound with
  |true=>vO l K
  |false=>bad "sound"
def EW:aF->cR->cR
 |.o a,K=>gl (a.sound=true) K
 |.i_,K|.j1,K|.lt _ _,K|.le _ _,K|.eq _ _,K|.bP _,K=>K
 |.v a,K=>match a.sound with
  |true=>K
  |false=>bad "sound"
 |.kg l,K=>vO l K
 |.fL l,K=>match jL (aF.bZ l) with
  |true=>K
  |false=>bad "sound"
def vP(s:DStep)(gZ:Nat):Option Nat->J->Nat->mX->List (Option J)
 |dV,h,cz,bf=>
  (match qM s dV (iv bf) with
   |true=>[]
   |false=>[match Nat.beq cz gZ with|true=>none|false=>some h])++
  (match bf with
   |[]=>[]
   |(e,_,an,k9)::rest=>vP s gZ (some e) an k9 rest)
def vQ(o:Oper)(g:Operand->I)(v:I)(r6:Bool):List (Option J)->cR->cR
 |[],K=>K
 |none::l,K=>vQ o g v r6 l K
 |some h::l,K=>match r6 with
  |true=>vQ o g v r6 l K
  |false=>gl (oA P o g h v) (vQ o g v r6 l K)
def lz(ops:Array Oper)(n:Nat)(env:List aF)(dH:List Nat)(Γ:c_)(last:Option Nat)(h:J)(cz:Nat)(bf:mX):List DStep->cR->cR
 |[],K=>K
 |s::rest,K=>match Nat.blt s.i n,kindOf P s.o.op with
  |true,.pure=>match tN (n-1-s.i) env,nth (n-1-s.i) dH with
   |some v,some gZ=>match vP s gZ last h cz bf with
    |[]=>lz ops n env dH Γ last h cz bf rest K
    |l=>match v with
     |.v (.aQ [])=>match jH P need ops s.loc s.o with
      |some (a,b)=>match l9 n env Γ a with
       |some (.v (.aQ []))=>lz ops n env dH Γ last h cz bf rest K
       |some .i_=>match b with
        |false=>lz ops n env dH Γ last h cz bf rest K
        |true=>bad "look"
       |some .j1=>match b with
        |true=>lz ops n env dH Γ last h cz bf rest K
        |false=>bad "look"
       |_=>bad "look"
      |none=>bad "look"
     |v=>EW v (vQ P s.o (λx=>(k8 P need n env Γ s.loc x).den) v.den (Bt P s.o (k8 P need n env Γ s.loc)) l (lz ops n env dH Γ last h cz bf rest K))
   |_,_=>bad "look"
  |_,_=>lz ops n env dH Γ last h cz bf rest K
def EX(op:Op)(g:Operand->aF)(b:Nat)(K:aF->df->cR):cR:=match op with
 |.box e x=>(g x).l_ λs=>vI s (K (.v (.ptr b 0)) (.cells (tR s) e .own 0 0))
 |.makeSlice t l c=>match eK (g l).den with
  |some oj=>gK λz:df=>gl (JX P t (g l).den (g c).den b=some (.slice b 0 oj (match eK (g c).den with|some c'=>.exact c'|none=>.dead),z)) (K (.v (.slice b 0 oj (match eK (g c).den with|some c'=>.exact c'|none=>.dead))) z)
  |none=>bad "makeSlice"
 |.buildSlice t len parts=>match(nN (parts.toList.map λp=>(p.1,g p.2))).any aF.EO with
  |true=>Bo P t len (parts.toList.map λp=>(p.1,g p.2)) λe cs=>K (.v (.slice b 0 len (.exact len))) (.cells (aF.bZ cs) e .own 0 0)
  |false=>match j8 P (.buildSlice t len parts) (λx=>(g x).den) b with
   |some (v,o)=>K (.v v) o
   |none=>bad "alloc"
 |op=>match j8 P op (λx=>(g x).den) b with
  |some (v,o)=>K (.v v) o
  |none=>bad "alloc"
abbrev r7:=List aF->List Nat->c_->List bU->bF->J->Nat->mX->cR
def r8(pl:kI)(iu:Nat)(ops:Array Oper)(cE:Nat):List DStep->List aF->List Nat->c_->List bU->bF->J->Nat->mX->r7->(I->r7)->cR
 |[],env,dH,Γ,d,q,h,cz,bf,K,_=>K env dH Γ d q h cz bf
 |s::rest,env,dH,Γ,d,q,h,cz,bf,K,bW=>match Br P need s.i env Γ s.loc s.o with
  |false=>bad ("an operand " ++s.o.pos)
  |true=>Bs (Bn (tQ (1000+keyOf iu s.i s.o) pl)) (jH P need ops s.loc s.o) s.i env Γ
   (λenv Γ=>match kindOf P s.o.op with
    |.alloc=>EX P s.o.op (k8 P need s.i env Γ s.loc) (cE+s.i) λv o=>r8 pl iu ops cE rest (v::env) (cz::dH) Γ d q (h.set (cE+s.i) (some o)) (cz+1) bf K bW
    |.pure=>yy P need inR call pl (keyOf iu s.i s.o) s.i env Γ s.loc s.o d q h (λenv Γ v _ _ _=>r8 pl iu ops cE rest (v::env) (cz::dH) Γ d q h cz bf K bW) (λ_ _ _ _ _=>bad "a panic")
    |.ek=>match tD s (iv bf) with
     |false=>bad "order"
     |true=>yy P need inR call pl (keyOf iu s.i s.o) s.i env Γ s.loc s.o d q h (λenv Γ v bd bk an=>r8 pl iu ops cE rest (v::env) (cz::dH) Γ bd bk an (cz+1) ((s.i,s.e2,h,cz)::bf) K bW)
      (λΓ v bd bk an=>match rest.all (λbc=>Nat.testBit bc.e2 s.i) with
       |true=>bW v env dH Γ bd bk an (cz+1) ((s.i,s.e2,h,cz)::bf)
       |false=>bad "panic"))
   (λenv Γ=>match kindOf P s.o.op with
    |.ek=>match tD s (iv bf) with
     |false=>bad "order"
     |true=>r8 pl iu ops cE rest (.v (.aQ [])::env) (cz::dH) Γ d q h cz ((s.i,s.e2,h,cz)::bf) K bW
    |_=>r8 pl iu ops cE rest (.v (.aQ [])::env) (cz::dH) Γ d q h cz bf K bW)
end
end aP
namespace aP
open Go
section
variable {P:Program} {need:Nat} {inR:Bool} {call:aI->List I->J->av}
theorem EY{m:Nat}{env:List aF}{Γ:c_}{loc:List (Nat×Acc)}{x:Operand}:(k8 P need m env Γ loc x).den=(g9 m (aF.bZ env) (cW Γ) (cJ P need loc x)).getD .bad:=by
 rw[<-vJ]
 unfold k8
 split<;>rename_i h<;>rw[h]<;>rfl
theorem KG{m:Nat}{env:List aF}{Γ:c_}{loc:List (Nat×Acc)}{o:Oper}(h:Br P need m env Γ loc o=true):∀x∈o.op.operands,(g9 m (aF.bZ env) (cW Γ) (cJ P need loc x)).isSome=true:=by
 intro x aa
 unfold Br at h
 rw[List.all_eq_true] at h
 have:=h x (by simpa using aa)
 rw[<-vJ,Option.isSome_map];exact this
theorem EZ{r:aY}{G:Env}(hm:Mod r G){m:Nat}{l:List I}{loc:List (Nat×Acc)}{o:Oper}(h:∀x∈o.op.operands,(g9 m l G (cJ P need loc x)).isSome=true):∀x∈o.op.operands,dx m l r (cJ P need loc x)=(g9 m l G (cJ P need loc x)).getD .bad:=by
 intro x aa
 obtain⟨v,aC⟩:=Option.isSome_iff_exists.1 (h x aa)
 rw[vK hm aC,aC];rfl
def oF(m:Nat)(l:List I)(G:Env)(gd:Option (Acc×Bool))(W:Bool):Prop:=match gd with
 |none=>W=true
 |some (a,b)=>∃kJ,g9 m l G a=some kJ/\ew (some (kJ,b))=some W
theorem oF.ok{m:Nat}{l:List I}{G:Env}{gd:Option (Acc×Bool)}{W:Bool}(h:oF m l G gd W){r:aY}(hm:Mod r G):ew (gd.map λx=>(dx m l r x.1,x.2))=some W:=by
 cases gd with
 |none=>cases h;rfl
 |some x=>
  obtain⟨kJ,ab,ad⟩:=h
  simp only[Option.map_some,vK hm ab,ad]
theorem oF.more{m:Nat}{l:List I}{G:Env}{gd:Option (Acc×Bool)}{W:Bool}(h:oF m l G gd W)(x:I):oF (m+1) (x::l) G gd W:=by
 cases gd with
 |none=>exact h
 |some y=>
  obtain⟨kJ,ab,ad⟩:=h
  exact⟨kJ,yw x ab,ad⟩
theorem KH{eD:Option Bool}{gd:Option (Acc×Bool)}{m:Nat}{env:List aF}{Γ:c_}{vM vN:List aF->c_->cR}(h:(Bs eD gd m env Γ vM vN).p):
  ∃ff cq,aF.bZ ff=aF.bZ env/\cW cq=cW Γ/\ff.length=env.length/\(((vM ff cq).p/\oF m (aF.bZ env) (cW Γ) gd true)\/((vN ff cq).p/\oF m (aF.bZ env) (cW Γ) gd false)):=by
 unfold Bs at h
 split at h
 · exact⟨env,Γ,rfl,rfl,rfl,.inl ⟨h,rfl⟩⟩
 · rename_i a b
   split at h
   · cases h
   · rename_i s hs
     have jZ:g9 m (aF.bZ env) (cW Γ) a=some s.den:=by rw[<-vJ,hs];rfl
     split at h
     · exact⟨env,Γ,rfl,rfl,rfl,.inr ⟨h,_,jZ,rfl⟩⟩
     · obtain⟨ae,aa⟩:=Bq _ h
       have ao:=aF.pJ ae
       rcases aa with⟨ba,aq⟩|⟨ba,aq⟩
       · rw[ba] at ao
         obtain⟨aA,ay,bw⟩:=vL (x:=.i_) hs ao
         refine⟨_,_,aA,ay,bw,?_⟩
         have aq:=oE (tV aq)
         cases b with
         |true=>exact .inl ⟨aq,_,jZ,by rw[ao];rfl⟩
         |false=>exact .inr ⟨aq,_,jZ,by rw[ao];rfl⟩
       · rw[ba] at ao
         obtain⟨aA,ay,bw⟩:=vL (x:=.j1) hs ao
         refine⟨_,_,aA,ay,bw,?_⟩
         have aq:=oE (tV aq)
         cases b with
         |true=>exact .inr ⟨aq,_,jZ,by rw[ao];rfl⟩
         |false=>exact .inl ⟨aq,_,jZ,by rw[ao];rfl⟩
theorem E0{pl:kI}{key m:Nat}{env:List aF}{Γ:c_}{loc:List (Nat×Acc)}{o:Oper}{d:List bU}{q:bF}{h:J}{K:List aF->c_->pH}{bW:c_->pI}(aa:(yy P need inR call pl key m env Γ loc o d q h K bW).p):
  ∃ff cq,aF.bZ ff=aF.bZ env/\cW cq=cW Γ/\ff.length=env.length/\ib (dO P inR call none o (λx=>(g9 m (aF.bZ env) (cW Γ) (cJ P need loc x)).getD .bad) d q h) (K ff cq) (bW cq):=by
 have al:(λx=>(g9 m (aF.bZ env) (cW Γ) (cJ P need loc x)).getD .bad)=λx=>(k8 P need m env Γ loc x).den:=funext λx=>EY.symm
 unfold yy at aa
 split at aa
 · rename_i c a b a4
   split at aa
   · cases aa
   · rename_i s hs
     obtain⟨ae,aS⟩:=Bq _ aa
     have ao:=aF.pJ ae
     have Bc:(k8 P need m env Γ loc c).den=s.den:=by unfold k8;rw[hs]
     rw[al]
     rcases aS with⟨ba,aq⟩|⟨ba,aq⟩
     · rw[ba] at ao
       obtain⟨aA,ay,bw⟩:=vL (x:=.i_) hs ao
       exact⟨_,_,aA,ay,bw,ib.val (s:=k8 P need m env Γ loc a) (by simp only[cH,a4,Bc,ao]) (aF.ma (oE (tV aq)))⟩
     · rw[ba] at ao
       obtain⟨aA,ay,bw⟩:=vL (x:=.j1) hs ao
       exact⟨_,_,aA,ay,bw,ib.val (s:=k8 P need m env Γ loc b) (by simp only[cH,a4,Bc,ao]) (aF.ma (oE (tV aq)))⟩
 · rw[al]
   exact⟨env,Γ,rfl,rfl,rfl,Ts aa⟩
theorem E1{r:aY}{s:Step}{rest:List Step}{env:List I}{d:List bU}{q:bF}{h:J}:ij P need inR call r (s::rest) env d q h=match dO P inR call (s.guard.map λx=>(dx s.m env r x.1,x.2)) s.o (λx=>dx s.m env r (cJ P need s.loc x)) d q h with
  |.ok v bd bk an=>ij P need inR call r rest (v::env) bd bk an
  |.b6 v bd bk an=>.b6 v bd bk an
  |.fail w=>.fail w:=by
 obtain⟨gd,o,loc,m⟩:=s
 cases gd<;>rfl
theorem E2{pl:kI}{iu:Nat}:∀(l:List Step) (env:List aF) (Γ:c_) (d:List bU) (q:bF) (h:J) {K:List aF->c_->List bU->bF->J->cR} {bW:I->c_->List bU->bF->J->cR},(yz P need inR call pl iu l env Γ d q h K bW).p->
  (∃ff cq bd bk an,(∀r,Mod r (cW Γ)->ij P need inR call r l (aF.bZ env) d q h=.ok (aF.bZ ff) bd bk an)/\cW cq=cW Γ/\(K ff cq bd bk an).p)\/∃v cq bd bk an,(∀r,Mod r (cW Γ)->ij P need inR call r l (aF.bZ env) d q h=.b6 v bd bk an)/\cW cq=cW Γ/\(bW v cq bd bk an).p
 |[],env,Γ,d,q,h,K,bW,aa=>.inl ⟨env,Γ,d,q,h,λ_ _=>rfl,rfl,aa⟩
 |s::rest,env,Γ,d,q,h,K,bW,aa=>by
  simp only[yz] at aa
  split at aa
  · cases aa
  · rename_i aq
    have iI:∀r,Mod r (cW Γ)->∀gd,dO P inR call gd s.o (λx=>dx s.m (aF.bZ env) r (cJ P need s.loc x)) d q h=dO P inR call gd s.o (λx=>(g9 s.m (aF.bZ env) (cW Γ) (cJ P need s.loc x)).getD .bad) d q h:=λr hm gd=>tw (EZ hm (KG aq))
    obtain⟨nO,hp,aA,ay,bw,hw⟩:=KH aa
    rcases hw with⟨hw,pK⟩|⟨hw,pK⟩
    · obtain⟨oG,Γ2,f1,f2,f3,a4⟩:=E0 hw
      rw[aA,ay] at a4
      rcases a4 with⟨x,d1,a8,ab,he,dk⟩|⟨v,d1,a8,ab,he,dk⟩
      · have a7:=E2 rest (x::oG) Γ2 d1 a8 ab dk
        have key:∀r,Mod r (cW Γ)->ij P need inR call r (s::rest) (aF.bZ env) d q h=ij P need inR call r rest (aF.bZ (x::oG)) d1 a8 ab:=λr hm=>by
         rw[E1,iI r hm,vA (pK.ok hm),he]
         simp only[aF.bZ,f1,aA]
        rw[f2,ay] at a7
        rcases a7 with⟨ff,cq,bd,bk,an,i1,i2,i3⟩|⟨v,cq,bd,bk,an,i1,i2,i3⟩
        · exact .inl ⟨ff,cq,bd,bk,an,λr hm=>(key r hm).trans (i1 r hm),i2,i3⟩
        · exact .inr ⟨v,cq,bd,bk,an,λr hm=>(key r hm).trans (i1 r hm),i2,i3⟩
      · refine .inr ⟨v,Γ2,d1,a8,ab,λr hm=>?_,f2.trans ay,dk⟩
        rw[E1,iI r hm,vA (pK.ok hm),he]
    · have a7:=E2 rest (.v (.aQ [])::nO) hp d q h hw
      have key:∀r,Mod r (cW Γ)->ij P need inR call r (s::rest) (aF.bZ env) d q h=ij P need inR call r rest (aF.bZ (.v (.aQ [])::nO)) d q h:=λr hm=>by
       rw[E1,yj (pK.ok hm)]
       simp only[aF.bZ,aF.den,aA]
      rw[ay] at a7
      rcases a7 with⟨ff,cq,bd,bk,an,i1,i2,i3⟩|⟨v,cq,bd,bk,an,i1,i2,i3⟩
      · exact .inl ⟨ff,cq,bd,bk,an,λr hm=>(key r hm).trans (i1 r hm),i2,i3⟩
      · exact .inr ⟨v,cq,bd,bk,an,λr hm=>(key r hm).trans (i1 r hm),i2,i3⟩
theorem yB(t:Nat):∀Γ:c_,cW (tZ t Γ)=del t (cW Γ)
 |[]=>rfl
 |(u,s)::l=>by
  simp only[tZ,cW,del]
  cases Nat.beq t u with
  |true=>exact yB t l
  |false=>simp only[cW];rw[yB t l]
theorem E3{m:Nat}{env:List aF}{fA:aY}{gB:c_}(hm:Mod fA (cW gB)):∀(l:List (Nat×Acc)) (r:aY) (Γ:c_),Mod r (cW Γ)->Mod (pd need m (aF.bZ env) fA l r) (cW (t_ need m env gB l Γ))
 |[],r,Γ,h=>h
 |(t,a)::l,r,Γ,h=>by
  have a7:=E3 (m:=m) (env:=env) hm l r Γ h
  simp only[pd,t_]
  cases Nat.testBit need t with
  |false=>exact a7
  |true=>
   cases al:l9 m env gB a with
   |some s=>
    have:g9 m (aF.bZ env) (cW gB) a=some s.den:=by rw[<-vJ,al];rfl
    simp only[cW,yB]
    rw[vK hm this];exact a7.put t s.den
   |none=>simp only[yB];exact a7.del t _
theorem E4:∀(l:List (Nat×Acc)) (r:aY) (Γ:c_),Mod r (cW Γ)->Mod (uV l r) (cW (yA l Γ))
 |[],r,Γ,h=>h
 |(t,a)::l,r,Γ,h=>by simp only[yA,yB];exact(E4 l r Γ h).del t _
theorem KI:∀(ops:List Oper) (n:Nat) (loc:List (Nat×Acc)) (gH:List Nat) (k:Nat) (s:DStep),(e7 ops n loc gH)[k]? =some s->s.i=n+k
 |[],n,loc,gH,k,s,h=>by simp[e7] at h
 |o::l,n,loc,gH,0,s,h=>by simp only[e7,List.getElem?_cons_zero,Option.some.injEq] at h;rw[<-h];rfl
 |o::l,n,loc,gH,k+1,s,h=>by
  simp only[e7,List.getElem?_cons_succ] at h
  have:=KI l (n+1) _ _ k s h
  omega
def vR(P:Program)(need:Nat)(ops:Array Oper)(s:DStep)(n:Nat)(l:List I)(G:Env)(dH:List Nat)(H:Nat->J):Prop:=s.i<n/\(kindOf P s.o.op=.pure->(∀x∈s.o.op.operands,(g9 n l G (cJ P need s.loc x)).isSome=true)/\∀v gZ,nth (n-1-s.i) l=some v->nth (n-1-s.i) dH=some gZ->oF n l G (jH P need ops s.loc s.o) false\/(oF n l G (jH P need ops s.loc s.o) true/\∃an,cH P s.o (λx=>(g9 n l G (cJ P need s.loc x)).getD .bad) (H gZ)=.val v an))
theorem Tt{α:Type}{n i:Nat}(h:i<n)(x:α)(l:List α):nth (n+1-1-i) (x::l)=nth (n-1-i) l:=by
 have:n+1-1-i=(n-1-i)+1:=by omega
 rw[this];rfl
theorem KJ{α:Type}:∀(n:Nat) (l:List α) (x:α),nth n l=some x->x∈l
 |0,[],_,h=>by cases h
 |_+1,[],_,h=>by cases h
 |0,y::l,x,h=>by cases h;exact List.mem_cons_self
 |n+1,y::l,x,h=>List.mem_cons_of_mem _ (KJ n l x h)
theorem vR.more{ops:Array Oper}{s:DStep}{n:Nat}{l:List I}{G:Env}{dH:List Nat}{H aW:Nat->J}(h:vR P need ops s n l G dH H)(x:I)(y:Nat)(cl:∀gZ∈dH,aW gZ=H gZ):vR P need ops s (n+1) (x::l) G (y::dH) aW:=by
 obtain⟨ab,ad⟩:=h
 refine⟨by omega,λaq=>?_⟩
 obtain⟨bH,bY⟩:=ad aq
 refine⟨λz a2=>?_,λv gZ aC mb=>?_⟩
 · obtain⟨w,hw⟩:=Option.isSome_iff_exists.1 (bH z a2)
   rw[yw x hw];rfl
 · rw[Tt ab] at aC mb
   rcases bY v gZ aC mb with e|⟨c9,an,e⟩
   · exact .inl (e.more x)
   · have Tu:=KJ _ _ _ mb
     refine .inr ⟨c9.more x,an,?_⟩
     rw[cl gZ Tu,<-e]
     exact x3 s.o _ λz a2=>by
      obtain⟨w,hw⟩:=Option.isSome_iff_exists.1 (bH z a2)
      rw[yw x hw,hw]
end
end aP
namespace aP
open Go
section
variable {P:Program} {need:Nat} {inR:Bool} {call:aI->List I->J->av}
theorem Bu:∀l:List aF,(aF.bZ l).length=l.length
 |[]=>rfl
 |_::l=>by simp only[aF.bZ,List.length_cons,Bu l]
structure mY(P:Program)(need:Nat)(ops:Array Oper)(pre:List DStep)(env:List aF)(dH:List Nat)(Γ:c_)(h:J)(cz:Nat)(bf:mX)(H:Nat->J):Prop where
 cur:H cz=h
 le:∀gZ∈dH,gZ<=cz
 st:∀z∈bf,z.2.2.2<=cz/\H z.2.2.2=z.2.2.1
 pl:pre.length=env.length
 seen:∀s∈pre,vR P need ops s env.length (aF.bZ env) (cW Γ) dH H
theorem mY.push{ops:Array Oper}{pre:List DStep}{env ff:List aF}{dH:List Nat}{Γ cq:c_}{h an:J}{cz k9:Nat}{bf r9:mX}{H aW:Nat->J}(w:mY P need ops pre env dH Γ h cz bf H){s:DStep}{v:aF}(af:s.i=env.length)(aA:aF.bZ ff=aF.bZ env)(ay:cW cq=cW Γ)(bw:ff.length=env.length)
  (cl:∀k,k<=cz->aW k=H k)(aC:cz<=k9)(ag:aW k9=an)(hs:∀z∈r9,z.2.2.2<=k9/\aW z.2.2.2=z.2.2.1)
  (aK:kindOf P s.o.op=.pure->(∀x∈s.o.op.operands,(g9 s.i (aF.bZ env) (cW Γ) (cJ P need s.loc x)).isSome=true)/\(oF s.i (aF.bZ env) (cW Γ) (jH P need ops s.loc s.o) false\/(oF s.i (aF.bZ env) (cW Γ) (jH P need ops s.loc s.o) true/\∃lA,cH P s.o (λx=>(g9 s.i (aF.bZ env) (cW Γ) (cJ P need s.loc x)).getD .bad) h=.val v.den lA))):
  mY P need ops (pre++[s]) (v::ff) (cz::dH) cq an k9 r9 aW:=by
 refine⟨ag,λgZ mb=>?_,hs,by simp[w.pl,bw],λz a2=>?_⟩
 · rcases List.mem_cons.1 mb with rfl|mb
   · exact aC
   · exact Nat.le_trans (w.le gZ mb) aC
 · rw[List.length_cons,bw,ay]
   simp only[aF.bZ,aA]
   rcases List.mem_append.1 a2 with a2|a2
   · exact(w.seen z a2).more _ _ λgZ mb=>cl gZ (w.le gZ mb)
   · obtain rfl:z=s:=by simpa using a2
     refine⟨by omega,λaq=>?_⟩
     obtain⟨bH,bY⟩:=aK aq
     rw[af] at bH bY
     refine⟨λx aa=>?_,λu gZ hu mb=>?_⟩
     · obtain⟨y,aS⟩:=Option.isSome_iff_exists.1 (bH x aa)
       rw[yw _ aS];rfl
     · have h0:env.length+1-1-z.i=0:=by omega
       rw[h0] at hu mb
       cases hu;cases mb
       rcases bY with bY|⟨kd,lA,bY⟩
       · exact .inl (bY.more _)
       · refine .inr ⟨kd.more _,lA,?_⟩
         rw[cl cz (Nat.le_refl _),w.cur,<-bY]
         exact x3 _ _ λx aa=>by
          obtain⟨y,aS⟩:=Option.isSome_iff_exists.1 (bH x aa)
          rw[yw _ aS,aS]
theorem yC{ops:Array Oper}{r:aY}{n:Nat}{env:List I}{s:DStep}:gV P need ops r n env s=(jH P need ops s.loc s.o).map λx=>(dx n env r x.1,x.2):=by
 unfold gV
 cases jH P need ops s.loc s.o<;>rfl
def KK:jg->Prop
 |.val _ _=>True
 |.b6 _ _=>True
 |.fail _=>True
 |_=>False
theorem Tv{o:Oper}{g:Operand->I}{H:J}(aq:kindOf P o.op=.pure):KK (cH P o g H):=by
 have gY:∀(w:String) (x:Option I),KK (fF H w x):=λw x=>by cases x<;>trivial
 obtain⟨dst,op,type,pos,after,guard⟩:=o
 cases op<;>simp only[kindOf] at aq<;>(try (cases aq;done))<;>unfold cH<;>simp only
 case binOp=>exact gY _ _
 case slice=>exact gY _ _
 case lookup=>exact gY _ _
 case convert s d x=>
  have cS:∀e,P.underlying d≠some (.slice e):=λe he=>by rw[he] at aq;cases aq
  unfold iR
  repeat' (first|trivial|exact absurd (by assumption) (cS _)|split)
 case call c=>
  cases ag:c.callee with
  |value f=>rw[ag] at aq;cases aq
  |invoke r n=>rw[ag] at aq;cases aq
  |builtin b=>
   rw[ag] at aq
   cases b<;>simp only at aq<;>(try (cases aq;done))<;>simp only[h6]<;>repeat' (first|trivial|exact gY _ _|split)
 all_goals repeat' (first|trivial|exact gY _ _|split)
theorem Tw{o:Oper}{g:Operand->I}{d d1:List bU}{q a8:bF}{h ab:J}{v:I}(aq:kindOf P o.op=.pure)(e:dO P inR call none o g d q h=.ok v d1 a8 ab):∃an,cH P o g h=.val v an:=by
 have aC:=Tv (P:=P) (g:=g) (H:=h) aq
 unfold dO at e
 simp only[ew] at e
 cases a4:cH P o g h<;>rw[a4] at e aC<;>first|(exact aC.elim)|(cases e;done)|(cases e;exact⟨_,rfl⟩)
theorem Tx{op:Op}{g:Operand->aF}{b:Nat}{K:aF->df->cR}(h:(EX P op g b K).p):∃s o,j8 P op (λx=>(g x).den) b=some (aF.den s,o)/\(K s o).p:=by
 unfold EX at h
 split at h
 · rename_i e x
   obtain⟨aA,ay,k⟩:=EU (aF.ma h)
   exact⟨_,_,by simp only[j8,aA,ay];rfl,k⟩
 · rename_i t l c
   split at h
   · obtain⟨z,a2,k⟩:=h
     exact⟨_,_,JZ (op:=.makeSlice t l c) (v:=aF.den (.v _)) a2,k⟩
   · cases h
 · rename_i t len parts
   split at h
   · obtain⟨e,sz,z,cs,hu,hs,a2,ab,hf,ag,k⟩:=KD h
     rw[KE] at hf
     exact⟨.v _,_,by simp only[j8,hu,hs,a2,ab,hf,ag];rfl,k⟩
   · split at h
     · rename_i v o aC
       exact⟨.v v,o,aC,h⟩
     · cases h
 · split at h
   · rename_i v o aC
     exact⟨.v v,o,aC,h⟩
   · cases h
def qQ(H:Nat->J)(k:Nat)(h:J)(j:Nat):J:=if j=k then h else H j
def pL(P:Program)(need:Nat)(inR:Bool)(call:aI->List I->J->av)(ops:Array Oper)(cE:Nat)(full l:List DStep)(env:List aF)(G:Env)(d:List bU)(q:bF)(h:J)(bf:mX)(K:r7)(bW:I->r7):Prop:=
 (∃ff r_ cq bd bk an k9 r9 aW,(∀r,Mod r G->gn P need inR call ops r cE l (aF.bZ env) d q h (iv bf)=.ok (aF.bZ ff) bd bk an (iv r9))/\cW cq=G/\mY P need ops full ff r_ cq an k9 r9 aW/\(K ff r_ cq bd bk an k9 r9).p)\/
 ∃v ff r_ cq bd bk an k9 e m h0 vS rV aW yD,(∀r,Mod r G->gn P need inR call ops r cE l (aF.bZ env) d q h (iv bf)=.b6 v (aF.bZ ff) bd bk an (iv ((e,m,h0,vS)::rV)))/\cW cq=G/\mY P need ops yD ff r_ cq h0 vS rV aW/\(∃post,full=yD++post)/\(bW v ff r_ cq bd bk an k9 ((e,m,h0,vS)::rV)).p
theorem pL.trans{ops:Array Oper}{cE:Nat}{full l bR:List DStep}{env oG:List aF}{G:Env}{d d2:List bU}{q a6:bF}{h ad:J}{bf KL:mX}{K:r7}{bW:I->r7}(aq:∀r,Mod r G->gn P need inR call ops r cE l (aF.bZ env) d q h (iv bf)=gn P need inR call ops r cE bR (aF.bZ oG) d2 a6 ad (iv KL))(he:pL P need inR call ops cE full bR oG G d2 a6 ad KL K bW):pL P need inR call ops cE full l env G d q h bf K bW:=by
 rcases he with⟨cr,cZ,dp,eS,eG,qR,qS,k_,yE,bC,c0,dU,g_⟩|⟨cr,cZ,dp,eS,eG,qR,qS,k_,yE,bo,bG,ed,ja,pM,nP,bC,c0,dU,g_,pN⟩
 · exact .inl ⟨cr,cZ,dp,eS,eG,qR,qS,k_,yE,λr hm=>(aq r hm).trans (bC r hm),c0,dU,g_⟩
 · exact .inr ⟨cr,cZ,dp,eS,eG,qR,qS,k_,yE,bo,bG,ed,ja,pM,nP,λr hm=>(aq r hm).trans (bC r hm),c0,dU,g_,pN⟩
theorem ua{ops:Array Oper}{r:aY}{cE:Nat}{s:DStep}{rest:List DStep}{env:List I}{d:List bU}{q:bF}{h:J}{bf:nI}:gn P need inR call ops r cE (s::rest) env d q h bf=
  match kindOf P s.o.op with
  |.alloc=>match ew (gV P need ops r s.i env s) with
   |none=>.fail ("guard " ++s.o.pos)
   |some false=>gn P need inR call ops r cE rest (.aQ []::env) d q h bf
   |some true=>match j8 P s.o.op (λx=>dx s.i env r (cJ P need s.loc x)) (cE+s.i) with
    |some (v,o)=>gn P need inR call ops r cE rest (v::env) d q (h.set (cE+s.i) (some o)) bf
    |none=>.fail ("alloc " ++s.o.pos)
  |.pure=>match dO P inR call (gV P need ops r s.i env s) s.o (λx=>dx s.i env r (cJ P need s.loc x)) d q h with
   |.ok v _ _ _=>gn P need inR call ops r cE rest (v::env) d q h bf
   |.b6 _ _ _ _=>.fail ("pure " ++s.o.pos)
   |.fail w=>.fail w
  |.ek=>match tD s bf with
   |false=>.fail ("order " ++s.o.pos)
   |true=>match dO P inR call (gV P need ops r s.i env s) s.o (λx=>dx s.i env r (cJ P need s.loc x)) d q h with
    |.ok v bd bk an=>gn P need inR call ops r cE rest (v::env) bd bk an ((s.i,s.e2,h)::bf)
    |.b6 v bd bk an=>match rest.all (λbc=>Nat.testBit bc.e2 s.i) with
     |true=>.b6 v env bd bk an ((s.i,s.e2,h)::bf)
     |false=>.fail ("panic " ++s.o.pos)
    |.fail w=>.fail w:=by
 cases bf<;>rfl
theorem ub{pl:kI}{iu:Nat}{ops:Array Oper}{cE:Nat}{full:List DStep}(pO:∀(k:Nat) (s:DStep),full[k]? =some s->s.i=k){K:r7}{bW:I->r7}:∀(l pre:List DStep) (env:List aF) (dH:List Nat) (Γ:c_) (d:List bU) (q:bF) (h:J) (cz:Nat) (bf:mX) (H:Nat->J),full=pre++l->mY P need ops pre env dH Γ h cz bf H->(r8 P need inR call pl iu ops cE l env dH Γ d q h cz bf K bW).p->pL P need inR call ops cE full l env (cW Γ) d q h bf K bW
 |[],pre,env,dH,Γ,d,q,h,cz,bf,H,hf,w,aa=>by
  rw[List.append_nil] at hf
  subst hf
  exact .inl ⟨env,dH,Γ,d,q,h,cz,bf,H,λ_ _=>rfl,rfl,w,aa⟩
 |s::rest,pre,env,dH,Γ,d,q,h,cz,bf,H,hf,w,aa=>by
  have af:s.i=env.length:=by
   rw[<-w.pl]
   exact pO pre.length s (by rw[hf];simp)
  have vT:full=(pre++[s])++rest:=by rw[hf];simp
  simp only[r8] at aa
  split at aa
  · cases aa
  · rename_i aq
    have uc:=KG aq
    have al:∀r,Mod r (cW Γ)->∀x∈s.o.op.operands,dx s.i (aF.bZ env) r (cJ P need s.loc x)=(g9 s.i (aF.bZ env) (cW Γ) (cJ P need s.loc x)).getD .bad:=λr hm=>EZ hm uc
    have iI:∀r,Mod r (cW Γ)->∀gd,dO P inR call gd s.o (λx=>dx s.i (aF.bZ env) r (cJ P need s.loc x)) d q h=dO P inR call gd s.o (λx=>(g9 s.i (aF.bZ env) (cW Γ) (cJ P need s.loc x)).getD .bad) d q h:=λr hm gd=>tw (al r hm)
    obtain⟨nO,hp,aA,ay,bw,hw⟩:=KH aa
    have kE:∀z∈bf,z.2.2.2<=cz/\H z.2.2.2=z.2.2.1:=w.st
    rcases hw with⟨hw,pK⟩|⟨hw,pK⟩
    · have sa:∀r,Mod r (cW Γ)->ew (gV P need ops r s.i (aF.bZ env) s)=some true:=λr hm=>by rw[yC];exact pK.ok hm
      split at hw
      · rename_i g8
        obtain⟨v,o,aT,dk⟩:=Tx hw
        have Bv:j8 P s.o.op (λx=>(g9 s.i (aF.bZ env) (cW Γ) (cJ P need s.loc x)).getD .bad) (cE+s.i)=some (v.den,o):=by
         rw[<-aT];congr 1;exact funext λx=>by rw[EY,aA,ay]
        have cK:mY P need ops (pre++[s]) (v::nO) (cz::dH) hp (h.set (cE+s.i) (some o)) (cz+1) bf (qQ H (cz+1) (h.set (cE+s.i) (some o))):=
         w.push af aA ay bw (λk aq=>by unfold qQ;rw[if_neg (by omega)]) (by omega) (by unfold qQ;rw[if_pos rfl]) (λz a2=>by
          obtain⟨ep,gk⟩:=kE z a2
          exact⟨by omega,by unfold qQ;rw[if_neg (by omega)];exact gk⟩) (λaK=>by rw[g8] at aK;cases aK)
        have a7:=ub pO rest (pre++[s]) (v::nO) (cz::dH) hp d q _ (cz+1) bf _ vT cK dk
        rw[ay] at a7
        refine pL.trans (λr hm=>?_) a7
        rw[ua,g8]
        simp only[sa r hm]
        rw[x4 _ _ (al r hm),Bv]
        simp only[aF.bZ,aA]
      · rename_i g8
        obtain⟨oG,Γ2,f1,f2,f3,a4⟩:=E0 hw
        rw[aA,ay] at a4
        rcases a4 with⟨x,d1,a8,ab,he,dk⟩|⟨v,d1,a8,ab,he,dk⟩
        · have fm:=Tw g8 he
          have cK:mY P need ops (pre++[s]) (x::oG) (cz::dH) Γ2 h cz bf H:=
           w.push af (f1.trans aA) (f2.trans ay) (f3.trans bw) (λk aq=>rfl) (Nat.le_refl _) w.cur kE (λ_=>⟨uc,.inr ⟨pK,fm⟩⟩)
          have a7:=ub pO rest (pre++[s]) (x::oG) (cz::dH) Γ2 d q h cz bf H vT cK dk
          rw[f2,ay] at a7
          refine pL.trans (λr hm=>?_) a7
          rw[ua,g8]
          simp only
          rw[iI r hm,vA (sa r hm),he]
          simp only[aF.bZ,f1,aA]
        · cases dk
      · rename_i g8
        split at hw
        · cases hw
        · rename_i lu
          obtain⟨oG,Γ2,f1,f2,f3,a4⟩:=E0 hw
          rw[aA,ay] at a4
          rcases a4 with⟨x,d1,a8,ab,he,dk⟩|⟨v,d1,a8,ab,he,dk⟩
          · have cK:mY P need ops (pre++[s]) (x::oG) (cz::dH) Γ2 ab (cz+1) ((s.i,s.e2,h,cz)::bf) (qQ H (cz+1) ab):=
              w.push af (f1.trans aA) (f2.trans ay) (f3.trans bw) (λk aq=>by unfold qQ;rw[if_neg (by omega)]) (by omega) (by unfold qQ;rw[if_pos rfl]) (λz a2=>by
               rcases List.mem_cons.1 a2 with rfl|a2
               · exact⟨by simp,by unfold qQ;rw[if_neg (by simp)];exact w.cur⟩
               · obtain⟨ep,gk⟩:=kE z a2
                 exact⟨by omega,by unfold qQ;rw[if_neg (by omega)];exact gk⟩) (λaK=>by rw[g8] at aK;cases aK)
            have a7:=ub pO rest (pre++[s]) (x::oG) (cz::dH) Γ2 d1 a8 ab (cz+1) _ _ vT cK dk
            rw[f2,ay] at a7
            refine pL.trans (λr hm=>?_) a7
            rw[ua,g8]
            simp only[lu]
            rw[iI r hm,vA (sa r hm),he]
            simp only[aF.bZ,f1,aA,iv]
          · split at dk
            · rename_i en
              refine .inr ⟨v,nO,dH,Γ2,d1,a8,ab,cz+1,s.i,s.e2,h,cz,bf,H,pre,λr hm=>?_,f2.trans ay,?_,⟨_,hf⟩,dk⟩
              · rw[ua,g8]
                simp only[lu]
                rw[iI r hm,vA (sa r hm),he]
                simp only[en,iv,aA]
              · exact⟨w.cur,w.le,w.st,w.pl.trans bw.symm,by rw[f2,ay,aA,bw];exact w.seen⟩
            · cases dk
    · have sa:∀r,Mod r (cW Γ)->ew (gV P need ops r s.i (aF.bZ env) s)=some false:=λr hm=>by rw[yC];exact pK.ok hm
      cases g8:kindOf P s.o.op with
      |ek=>
       rw[g8] at hw
       simp only at hw
       split at hw
       · cases hw
       · rename_i lu
         have cK:mY P need ops (pre++[s]) (.v (.aQ [])::nO) (cz::dH) hp h cz ((s.i,s.e2,h,cz)::bf) H:=
          w.push af aA ay bw (λk aq=>rfl) (Nat.le_refl _) w.cur (λz a2=>by
           rcases List.mem_cons.1 a2 with rfl|a2
           · exact⟨Nat.le_refl _,w.cur⟩
           · exact kE z a2) (λaK=>by rw[g8] at aK;cases aK)
         have a7:=ub pO rest (pre++[s]) (.v (.aQ [])::nO) (cz::dH) hp d q h cz _ H vT cK hw
         rw[ay] at a7
         refine pL.trans (λr hm=>?_) a7
         rw[ua,g8]
         simp only[lu]
         rw[yj (sa r hm)]
         simp only[aF.bZ,aF.den,aA,iv]
      |alloc=>
       rw[g8] at hw
       simp only at hw
       have cK:mY P need ops (pre++[s]) (.v (.aQ [])::nO) (cz::dH) hp h cz bf H:=
        w.push af aA ay bw (λk aq=>rfl) (Nat.le_refl _) w.cur kE (λaK=>by rw[g8] at aK;cases aK)
       have a7:=ub pO rest (pre++[s]) (.v (.aQ [])::nO) (cz::dH) hp d q h cz bf H vT cK hw
       rw[ay] at a7
       refine pL.trans (λr hm=>?_) a7
       rw[ua,g8]
       simp only[sa r hm]
       simp only[aF.bZ,aF.den,aA]
      |pure=>
       rw[g8] at hw
       simp only at hw
       have cK:mY P need ops (pre++[s]) (.v (.aQ [])::nO) (cz::dH) hp h cz bf H:=
        w.push af aA ay bw (λk aq=>rfl) (Nat.le_refl _) w.cur kE (λ_=>⟨uc,.inl pK⟩)
       have a7:=ub pO rest (pre++[s]) (.v (.aQ [])::nO) (cz::dH) hp d q h cz bf H vT cK hw
       rw[ay] at a7
       refine pL.trans (λr hm=>?_) a7
       rw[ua,g8]
       simp only
       rw[yj (sa r hm)]
       simp only[aF.bZ,aF.den,aA]
end
end aP
namespace aP
open Go
section
variable {P:Program} {need:Nat} {inR:Bool} {call:aI->List I->J->av}
theorem Ty{o:Oper}{g:Operand->aF}(aw:Bt P o g=true){h ab:J}{v:I}(e:cH P o (λx=>(g x).den) h=.val v ab)(an:J):∃ad,cH P o (λx=>(g x).den) an=.val v ad:=by
 have gY:∀{w:String} {x:Option I},fF h w x=.val v ab->∃ad,fF an w x=.val v ad:=λ{w x} e=>by
  cases x with
  |none=>cases e
  |some y=>cases e;exact⟨_,rfl⟩
 obtain⟨dst,op,type,pos,after,guard⟩:=o
 cases op<;>simp only[Bt] at aw<;>(try (cases aw;done))<;>unfold cH at e⊢ <;>simp only at e⊢
 case binOp op t x y yt=>
  split at aw
  · rename_i k a ej b aa aS
    rw[aa,aS] at e⊢
    simp only[aF.den,eJ] at e⊢
    exact gY e
  · rename_i a b aa aS
    rw[aa,aS] at e⊢
    simp only[aF.den,eJ] at e⊢
    exact gY e
  · rw[Bool.and_eq_true] at aw
    rw[aF.pJ aw.1,aF.pJ aw.2] at e⊢
    have ak:eJ P an op t x y (.bool (g x).kH) (.bool (g y).kH)=eJ P h op t x y (.bool (g x).kH) (.bool (g y).kH):=by
     simp only[eJ,fU]
    rw[ak];exact gY e
 case call c=>
  split at aw
  · rename_i ag
    rw[ag] at e⊢
    simp only[h6] at e⊢
    split at aw
    · rename_i t ba
      rw[ba] at e⊢
      cases hF:c.args.toList.map λx=>(g x).den with
      |nil=>rw[hF] at e;cases e
      |cons x l=>
       rw[hF] at e
       cases l with
       |nil=>
        simp only at e⊢
        split at aw
        · rename_i el hu
          simp only[cc,hu] at e⊢
          cases x<;>simp only at e⊢ <;>exact gY e
        · rename_i hu
          simp only[cc,hu] at e⊢
          cases x<;>simp only at e⊢ <;>exact gY e
        · cases aw
       |cons y l=>
        cases l with
        |nil=>simp only at e;cases e
        |cons z l=>simp only at e;cases e
    · cases aw
  · cases aw
 case typeAssert=>repeat' (first|contradiction|exact gY e|(cases e;done)|(cases e;exact⟨_,rfl⟩)|(cases e;simp_all;done)|split at e)
 all_goals repeat' (first|contradiction|exact gY e|(cases e;exact⟨_,rfl⟩)|(rw[if_pos (by assumption)];first|exact gY e|(cases e;exact⟨_,rfl⟩))|(cases e;done)|split at e)
theorem KM{K:cR}:∀(l:List aF),(vO l K).p->jL (aF.bZ l)=true/\K.p
 |[],h=>⟨rfl,h⟩
 |s::l,h=>by
  have key:s.den.sound=true/\(vO l K).p:=by
   cases s<;>simp only[vO] at h<;>first|exact h|(split at h<;>first|exact⟨by assumption,h⟩|cases h)
  obtain⟨bH,bY⟩:=KM l key.2
  exact⟨by simp only[aF.bZ,jL,key.1,bH,Bool.and_true],bY⟩
theorem KN{s:aF}{K:cR}(h:(EW s K).p):s.den.sound=true/\K.p:=by
 cases s<;>simp only[EW] at h<;>first|exact⟨rfl,h⟩|exact h|skip
 all_goals first
  |exact KM _ h
  |(split at h
    · rename_i hs;exact⟨hs,h⟩
    · cases h)
theorem yF{o:Oper}{g:Operand->I}{v:I}{r6:Bool}{K:cR}:∀(l:List (Option J)),(vQ P o g v r6 l K).p->K.p/\(r6=false->∀h,some h∈l->oA P o g h v)
 |[],h=>⟨h,λ_ _ hm=>by cases hm⟩
 |none::l,h=>by
  obtain⟨ab,ad⟩:=yF l h
  exact⟨ab,λaN an hm=>by
   rcases List.mem_cons.1 hm with e|hm
   · cases e
   · exact ad aN an hm⟩
 |some x::l,h=>by
  simp only[vQ] at h
  cases r6 with
  |true=>
   obtain⟨ab,ad⟩:=yF l h
   exact⟨ab,λaN=>by cases aN⟩
  |false=>
   obtain⟨h0,h⟩:=h
   obtain⟨ab,ad⟩:=yF l h
   exact⟨ab,λaN an hm=>by
    rcases List.mem_cons.1 hm with e|hm
    · cases e;exact h0
    · exact ad aN an hm⟩
theorem KO{ops:Array Oper}{r:aY}{n:Nat}{env:List I}{s:DStep}{v:I}{gZ:Nat}{H:Nat->J}:∀(bf:mX) (dV:Option Nat) (h:J) (cz:Nat),H cz=h->(∀z∈bf,H z.2.2.2=z.2.2.1)->(∀o∈vP s gZ dV h cz bf,lP P need ops r n env s v (match o with|none=>H gZ|some h=>h)=true)->kX P need ops r n env s v dV h (iv bf)=true
 |[],dV,h,cz,ak,hs,aw=>by
  simp only[iv]
  rw[Bd]
  simp only[vP] at aw
  cases ae:qM s dV [] with
  |true=>rfl
  |false=>
   rw[show qM s dV (iv [])=false from ae] at aw
   simp only[Bool.and_true]
   cases aC:Nat.beq cz gZ with
   |true=>
    have:=aw none (by rw[aC];simp)
    obtain rfl:=Nat.eq_of_beq_eq_true aC
    rw[<-ak];exact this
   |false=>exact aw (some h) (by rw[aC];simp)
 |(e,m,an,k9)::rest,dV,h,cz,ak,hs,aw=>by
  simp only[iv]
  rw[Bd]
  simp only[vP] at aw
  have a7:=KO (ops:=ops) (r:=r) (n:=n) (env:=env) (v:=v) rest (some e) an k9 (hs _ List.mem_cons_self) (λz a2=>hs z (List.mem_cons_of_mem _ a2)) λo a4=>aw o (List.mem_append.2 (.inr a4))
  simp only[]
  rw[a7,Bool.and_true]
  cases ae:qM s dV ((e,m,an)::iv rest) with
  |true=>rfl
  |false=>
   rw[show qM s dV (iv ((e,m,an,k9)::rest))=false from ae] at aw
   simp only
   cases aC:Nat.beq cz gZ with
   |true=>
    have:=aw none (List.mem_append.2 (.inl (by rw[aC];simp)))
    obtain rfl:=Nat.eq_of_beq_eq_true aC
    rw[<-ak];exact this
   |false=>exact aw (some h) (List.mem_append.2 (.inl (by rw[aC];simp)))
theorem E5{ops:Array Oper}{r:aY}{n:Nat}{env:List aF}{dH:List Nat}{Γ:c_}(hm:Mod r (cW Γ)){last:Option Nat}{h:J}{cz:Nat}{bf:mX}{H:Nat->J}(cl:H cz=h)(ct:∀z∈bf,H z.2.2.2=z.2.2.1){K:cR}:∀(l:List DStep),(∀s∈l,s.i<n->vR P need ops s n (aF.bZ env) (cW Γ) dH H)->(lz P need ops n env dH Γ last h cz bf l K).p->lo P need ops r n (aF.bZ env) last h (iv bf) l=true
 |[],_,_=>rfl
 |s::rest,hs,aa=>by
  simp only[lo]
  simp only[lz] at aa
  have z7:=λ(k:(lz P need ops n env dH Γ last h cz bf rest K).p)=>E5 hm cl ct rest (λz a2=>hs z (List.mem_cons_of_mem _ a2)) k
  split at aa
  · rename_i ae g8
    have af:s.i<n:=by simpa using ae
    obtain⟨_,nQ⟩:=hs s List.mem_cons_self af
    obtain⟨uc,l0⟩:=nQ g8
    rw[ae,g8]
    simp only
    split at aa
    · rename_i v gZ aC mb
      have KP:nth (n-1-s.i) (aF.bZ env)=some v.den:=Kw _ _ _ aC
      rw[KP]
      simp only[Option.getD_some]
      have fin:∀(aq:(lz P need ops n env dH Γ last h cz bf rest K).p),(∀o∈vP s gZ last h cz bf,lP P need ops r n (aF.bZ env) s v.den (match o with|none=>H gZ|some h=>h)=true)->(kX P need ops r n (aF.bZ env) s v.den last h (iv bf)&&lo P need ops r n (aF.bZ env) last h (iv bf) rest)=true:=λaq a4=>by
       rw[z7 aq,Bool.and_true]
       exact KO bf last h cz cl ct a4
      split at aa
      · rename_i qE
        exact fin aa λo a4=>by rw[qE] at a4;cases a4
      · split at aa
        ·
         have E6:ew (gV P need ops r n (aF.bZ env) s)=some false->∀an,lP P need ops r n (aF.bZ env) s (aF.den (.v (.aQ []))) an=true:=λhw an=>by
          unfold lP;rw[hw]
         split at aa
         · rename_i a b tY
           have ao:∀(x:aF),l9 n env Γ a=some x->gV P need ops r n (aF.bZ env) s=some (x.den,b):=λx aa=>by
            have jZ:g9 n (aF.bZ env) (cW Γ) a=some x.den:=by rw[<-vJ,aa];rfl
            rw[yC,tY]
            simp only[Option.map_some,vK hm jZ]
           split at aa
           · rename_i tz
             exact fin aa λo _=>E6 (by rw[ao _ tz];rfl) _
           · rename_i tz
             cases b with
             |false=>exact fin aa λo _=>E6 (by rw[ao _ tz];rfl) _
             |true=>cases aa
           · rename_i tz
             cases b with
             |true=>exact fin aa λo _=>E6 (by rw[ao _ tz];rfl) _
             |false=>cases aa
           · cases aa
         · cases aa
        · rename_i cS
          obtain⟨eH,aa⟩:=KN aa
          obtain⟨aa,Tz⟩:=yF _ aa
          have gz:(λx=>(k8 P need n env Γ s.loc x).den)=λx=>(g9 n (aF.bZ env) (cW Γ) (cJ P need s.loc x)).getD .bad:=funext λx=>EY
          refine fin aa λo a4=>?_
          rcases l0 v.den gZ KP mb with e|⟨c9,e⟩
          · have hw:ew (gV P need ops r n (aF.bZ env) s)=some false:=by rw[yC];exact e.ok hm
            unfold lP;rw[hw]
          · have hw:ew (gV P need ops r n (aF.bZ env) s)=some true:=by rw[yC];exact c9.ok hm
            have look:∀an,(∃lA,cH P s.o (λx=>(k8 P need n env Γ s.loc x).den) an=.val v.den lA)->lP P need ops r n (aF.bZ env) s v.den an=true:=λan ⟨lA,e⟩=>by
             have TA:cH P s.o (λx=>dx n (aF.bZ env) r (cJ P need s.loc x)) an=.val v.den lA:=by
              rw[<-e,gz]
              exact x3 s.o an (EZ hm uc)
             unfold lP
             simp only[hw,TA]
             exact tH _ eH
            rw[<-gz] at e
            cases o with
            |none=>exact look _ e
            |some an=>
             refine look an ?_
             cases ak:Bt P s.o (k8 P need n env Γ s.loc) with
             |true=>
              obtain⟨ab,e⟩:=e
              exact Ty ak e an
             |false=>exact⟨an,tG (Tz ak an a4)⟩
    · cases aa
  · rename_i ox
    have aa:=z7 aa
    rw[aa,Bool.and_true]
    cases ae:Nat.blt s.i n with
    |false=>rfl
    |true=>
     cases aq:kindOf P s.o.op with
     |pure=>exact absurd aq (ox ae)
     |alloc=>rfl
     |ek=>rfl
theorem E7{ops:Array Oper}{n:Nat}{env:List aF}{dH:List Nat}{Γ:c_}{last:Option Nat}{h:J}{cz:Nat}{bf:mX}{K:cR}:∀(l:List DStep),(lz P need ops n env dH Γ last h cz bf l K).p->K.p
 |[],aa=>aa
 |s::rest,aa=>by
  have a7:(lz P need ops n env dH Γ last h cz bf rest K).p->K.p:=λk=>E7 rest k
  simp only[lz] at aa
  split at aa
  · split at aa
    · split at aa
      · exact a7 aa
      · split at aa
        · split at aa
          · split at aa
            · exact a7 aa
            · split at aa
              · exact a7 aa
              · cases aa
            · split at aa
              · exact a7 aa
              · cases aa
            · cases aa
          · cases aa
        · exact a7 (yF _ (KN aa).2).1
    · cases aa
  · exact a7 aa
def KQ(P:Program)(need:Nat)(inR:Bool)(call:aI->List I->J->av)(pl:kI)(iu:Nat)(ops:Array Oper)(Γ:c_)(d:List bU)(q:bF)(h:J)(K:bn->c_->List bU->bF->J->cR):cR:=
 r8 P need inR call pl iu ops h.n (e7 ops.toList 0 [] []) [] [] Γ d q (h.room ops.size) 0 []
  (λenv dH Γ d q h cz bf=>lz P need ops env.length env dH Γ none h cz bf (e7 ops.toList 0 [] []) (nM (t_ need env.length env Γ (iS ops.toList 0 []) Γ) λΓ=>K .nrm Γ d q h))
  (λv env dH Γ d q h cz bf=>match bf with
   |(e,m,h0,vS)::bf=>lz P need ops env.length env dH Γ (some e) h0 vS bf (e7 ops.toList 0 [] []) (nM (yA (iS ops.toList 0 []) Γ) λΓ=>K (.b6 v) Γ d q h)
   |[]=>bad "a panic")
def E8(P:Program)(need:Nat)(rd:Option Nat)(call:aI->List I->J->av)(c:Code)(Γ:c_)(d:List bU)(q:bF)(h:J)(K:bn->c_->List bU->bF->J->cR):Prop:=∃e cq bd bk an,c5 P need rd call c ⟨cW Γ,d,q,h⟩ e ⟨cW cq,bd,bk,an⟩/\(K e cq bd bk an).p
theorem TB{rd:Option Nat}{pl:kI}{iu:Nat}{ops:Array Oper}{Γ:c_}{d:List bU}{q:bF}{h:J}{K:bn->c_->List bU->bF->J->cR}(aa:(KQ P need rd.isSome call pl iu ops Γ d q h K).p):E8 P need rd call (.region iu ops true) Γ d q h K:=by
 have pO:∀(k:Nat) (s:DStep),(e7 ops.toList 0 [] [])[k]? =some s->s.i=k:=λk s hs=>by have:=KI _ _ _ _ _ _ hs;omega
 have gX:mY P need ops [] [] [] Γ (h.room ops.size) 0 [] (λ_=>h.room ops.size):=⟨rfl,λ_ hm=>(by cases hm),λ_ hm=>(by cases hm),rfl,λ_ hm=>(by cases hm)⟩
 rcases ub pO (e7 ops.toList 0 [] []) [] [] [] Γ d q (h.room ops.size) 0 [] _ rfl gX aa with⟨ff,r_,cq,bd,bk,an,k9,r9,aW,bC,c0,w,dk⟩|⟨v,ff,r_,cq,bd,bk,an,k9,e,m,h0,vS,rV,aW,yD,bC,c0,w,⟨post,aK⟩,dk⟩
 · refine⟨.nrm,_,bd,bk,an,λr hm=>?_,oE (E7 _ dk)⟩
   have ab:=bC r hm
   have ad:=E5 (r:=r) (by rw[c0];exact hm) w.cur (λz a2=>(w.st z a2).2) _ (λs hs _=>w.seen s hs) dk
   refine⟨_,?_,E3 (by rw[c0];exact hm) _ _ _ (by rw[c0];exact hm)⟩
   have g7:gn P need rd.isSome call ops r h.n (e7 ops.toList 0 [] []) [] d q ⟨h.t,h.n+ops.size⟩ []=.ok (aF.bZ ff) bd bk an (iv r9):=ab
   simp only[dy,sY,g7,Bu,ad,mB]
 · refine⟨.b6 v,_,bd,bk,an,λr hm=>?_,oE (E7 _ dk)⟩
   have ab:=bC r hm
   have TC:∀s∈e7 ops.toList 0 [] [],s.i<ff.length->vR P need ops s ff.length (aF.bZ ff) (cW cq) r_ aW:=λs hs af=>by
    refine w.seen s ?_
    obtain⟨k,aq,pB⟩:=List.getElem_of_mem hs
    have adv:s.i=k:=pO k s (by rw[List.getElem?_eq_getElem aq,pB])
    have KR:k<yD.length:=by rw[w.pl];omega
    have:(yD++post)[k]? =some s:=by rw[<-aK,List.getElem?_eq_getElem aq,pB]
    rw[List.getElem?_append_left KR] at this
    exact List.mem_of_getElem? this
   have ad:=E5 (r:=r) (by rw[c0];exact hm) w.cur (λz a2=>(w.st z a2).2) _ TC dk
   refine⟨_,?_,E4 _ _ _ (by rw[c0];exact hm)⟩
   have g7:gn P need rd.isSome call ops r h.n (e7 ops.toList 0 [] []) [] d q ⟨h.t,h.n+ops.size⟩ []=.b6 v (aF.bZ ff) bd bk an ((e,m,h0)::iv rV):=ab
   simp only[dy,sY,g7,Bu,ad,mB]
end
end aP
namespace aP
open Go
abbrev ud:=bn->c_->List bU->bF->J->cR
def Bw(P:Program):List (Nat×kh)->(c_->cR)->cR
 |[],K=>K []
 |(t,s)::l,K=>shape P 9 s λx=>Bw P l λΓ=>K ((t,x)::Γ)
def E9(P:Program)(d:List bU)(q:bF)(K:ud)(b9:bn)(cj:ah):List (bn×List (Nat×kh))->cR
 |[]=>bad "loop"
 |[(e,rs)]=>Bw P rs λgB=>gK λg:J=>gK λcq:Env=>gl (b9=e) (gl (cj=⟨cq,d,q,g⟩) (gl (b_ (cW gB) cq) (K e gB d q g)))
 |(e,rs)::l=>.mk ((Bw P rs λgB=>gK λg:J=>gK λcq:Env=>gl (b9=e) (gl (cj=⟨cq,d,q,g⟩) (gl (b_ (cW gB) cq) (K e gB d q g)))).p\/(E9 P d q K b9 cj l).p)
def TD:Operand->Nat
 |.tmp t=>t
 |_=>999
def Bx(P:Program)(call:aI->List I->J->av)(fn:Func)(pl:kI)(ga:Nat)(path:List Nat)(Γ:c_)(d:List bU)(q:bF)(h:J)(K:ud):cR:=match tQ (4000+ga) pl with
 |some (.gT ins outs)=>.mk (a3 P fn call path ⟨mR (cW Γ) ins,d,q,h⟩ λb9 cj=>(E9 P d q K b9 cj outs).p)
 |_=>bad "loop"
def mZ(P:Program)(call:aI->List I->J->av)(fn:Func)(need:Nat)(pl:kI):Code->Nat->List Nat->c_->List bU->bF->J->ud->cR
 |.skip,_,_,Γ,d,q,h,K=>K .nrm Γ d q h
 |.label _,_,_,Γ,d,q,h,K=>K .nrm Γ d q h
 |.exit id,_,_,Γ,d,q,h,K=>K (.exit id) Γ d q h
 |.ret,_,_,Γ,d,q,h,K=>K .ret Γ d q h
 |.scope b,ga,p,Γ,d,q,h,K=>mZ P call fn need pl b ga (p++[0]) Γ d q h K
 |.region id ops draw,_,_,Γ,d,q,h,K=>match draw with
  |false=>yz P need false call pl id (pc P need ops).steps [] Γ d q h
   (λenv Γ d q h=>nM (t_ need env.length env Γ (pc P need ops).loc Γ) λΓ=>K .nrm Γ d q h)
   (λv Γ d q h=>nM (yA (pc P need ops).loc Γ) λΓ=>K (.b6 v) Γ d q h)
  |true=>KQ P need false call pl id ops Γ d q h K
 |.seq a b,ga,p,Γ,d,q,h,K=>mZ P call fn need pl a ga (p++[0]) Γ d q h λe Γ d q h=>match e with
  |.nrm=>mZ P call fn need pl b ga (p++[1]) Γ d q h K
  |e=>K e Γ d q h
 |.cond c a b,ga,p,Γ,d,q,h,K=>match l9 0 [] Γ (cJ P need [] c) with
  |none=>bad "if"
  |some s=>s.hW (Bn (tQ (1000+TD c) pl)) (nM (tP (cJ P need [] c) .i_ Γ) λΓ=>mZ P call fn need pl a ga (p++[0]) Γ d q h K) (nM (tP (cJ P need [] c) .j1 Γ) λΓ=>mZ P call fn need pl b ga (p++[1]) Γ d q h K)
 |.block id b,_,p,Γ,d,q,h,K=>mZ P call fn need pl b id (p++[0]) Γ d q h λe Γ d q h=>match e with
  |.exit i=>match Nat.beq i id with
   |true=>K .nrm Γ d q h
   |false=>K (.exit i) Γ d q h
  |e=>K e Γ d q h
 |.loop _,ga,p,Γ,d,q,h,K=>Bx P call fn pl ga p Γ d q h K
 |.rangeFunc _ _ _ _,ga,p,Γ,d,q,h,K=>Bx P call fn pl (500+ga) p Γ d q h K
 |_,_,_,_,_,_,_,_=>bad "code"
section
variable {P:Program} {call:aI->List I->J->av} {fn:Func}
theorem E_:∀(l:List (Nat×kh)) {K:c_->cR},(Bw P l K).p->∃Γ,(K Γ).p
 |[],K,h=>⟨[],h⟩
 |(t,s)::l,K,h=>by
  obtain⟨x,h⟩:=tW h
  obtain⟨Γ,h⟩:=E_ l h
  exact⟨_,h⟩
theorem KS{d:List bU}{q:bF}{K:ud}{b9:bn}{cj:ah}:∀(l:List (bn×List (Nat×kh))),(E9 P d q K b9 cj l).p->∃gB cq g,cj=⟨cq,d,q,g⟩/\b_ (cW gB) cq/\(K b9 gB d q g).p
 |[],h=>by cases h
 |[(e,rs)],h=>by
  obtain⟨gB,g,cq,rfl,ad,ar,aG⟩:=E_ _ h
  exact⟨gB,cq,g,ad,ar,aG⟩
 |(e,rs)::y::l,h=>by
  rcases h with h|h
  · obtain⟨gB,g,cq,rfl,ad,ar,aG⟩:=E_ _ h
    exact⟨gB,cq,g,ad,ar,aG⟩
  · exact KS (y::l) h
theorem By(Γ:Env):∀l:List Nat,b_ (mR Γ l) Γ
 |[]=>trivial
 |t::l=>by
  simp only[mR]
  cases h:ee t Γ with
  |none=>exact By Γ l
  |some v=>exact⟨h,By Γ l⟩
theorem KT{pl:kI}{ga:Nat}{p:List Nat}{Γ:c_}{d:List bU}{q:bF}{h:J}{K:ud}(aa:(Bx P call fn pl ga p Γ d q h K).p):E8 P (dL fn) none call (sub (e9 fn) p) Γ d q h K:=by
 unfold Bx at aa
 split at aa
 · obtain⟨e,st,aj,aM⟩:=aa
   obtain⟨gB,cq,g,rfl,ar,aG⟩:=KS _ aM
   have ab:c5 P (dL fn) none call (sub (e9 fn) p) ⟨cW Γ,d,q,h⟩ e ⟨cq,d,q,g⟩:=c5.pre (st1:=⟨cW Γ,d,q,h⟩) aj (By _ _) rfl rfl rfl
   exact⟨e,gB,d,q,g,c5.post ab ar,aG⟩
 · cases aa
theorem sb{pl:kI}:∀(c:Code) (ga:Nat) (p:List Nat) (Γ:c_) (d:List bU) (q:bF) (h:J) (K:ud),sub (e9 fn) p=c->(mZ P call fn (dL fn) pl c ga p Γ d q h K).p->E8 P (dL fn) none call c Γ d q h K
 |.skip,ga,p,Γ,d,q,h,K,ag,aa=>⟨.nrm,Γ,d,q,h,λr aj=>⟨r,rfl,aj⟩,aa⟩
 |.label _,ga,p,Γ,d,q,h,K,ag,aa=>⟨.nrm,Γ,d,q,h,λr aj=>⟨r,rfl,aj⟩,aa⟩
 |.exit id,ga,p,Γ,d,q,h,K,ag,aa=>⟨.exit id,Γ,d,q,h,λr aj=>⟨r,rfl,aj⟩,aa⟩
 |.ret,ga,p,Γ,d,q,h,K,ag,aa=>⟨.ret,Γ,d,q,h,λr aj=>⟨r,rfl,aj⟩,aa⟩
 |.scope b,ga,p,Γ,d,q,h,K,ag,aa=>sb b ga (p++[0]) Γ d q h K (by rw[jv,ag];simp[sub]) aa
 |.region id ops draw,ga,p,Γ,d,q,h,K,ag,aa=>by
  simp only[mZ] at aa
  cases draw with
  |true=>exact TB aa
  |false=>
   rcases E2 _ _ _ _ _ _ aa with⟨ff,cq,bd,bk,an,bC,c0,dk⟩|⟨v,cq,bd,bk,an,bC,c0,dk⟩
   · refine⟨.nrm,_,bd,bk,an,λr aj=>⟨_,?_,E3 (by rw[c0];exact aj) _ _ _ (by rw[c0];exact aj)⟩,oE dk⟩
     have ab:ij P (dL fn) false call r (pc P (dL fn) ops).steps [] d q h=.ok (aF.bZ ff) bd bk an:=bC r aj
     simp only[dy,Option.isSome_none,ab,mB,Bu]
   · refine⟨.b6 v,_,bd,bk,an,λr aj=>⟨_,?_,E4 _ _ _ (by rw[c0];exact aj)⟩,oE dk⟩
     have ab:ij P (dL fn) false call r (pc P (dL fn) ops).steps [] d q h=.b6 v bd bk an:=bC r aj
     simp only[dy,Option.isSome_none,ab,mB]
 |.seq a b,ga,p,Γ,d,q,h,K,ag,aa=>by
  obtain⟨e,hp,d1,a8,ab,r1,bH⟩:=sb a ga (p++[0]) Γ d q h _ (by rw[jv,ag];simp[sub]) aa
  by_cases he:e=.nrm
  · subst he
    obtain⟨ay,Γ2,d2,a6,ad,r2,bY⟩:=sb b ga (p++[1]) hp d1 a8 ab K (by rw[jv,ag];simp[sub]) bH
    refine⟨ay,Γ2,d2,a6,ad,λr aj=>?_,bY⟩
    obtain⟨m0,hk,m1⟩:=r1 r aj
    obtain⟨TE,nR,TF⟩:=r2 m0 m1
    exact⟨TE,by simp only at hk nR;simp only[dy,hk,qg,nR],TF⟩
  · refine⟨e,hp,d1,a8,ab,λr aj=>?_,by cases e<;>first|exact absurd rfl he|exact bH⟩
    obtain⟨m0,hk,m1⟩:=r1 r aj
    exact⟨m0,by simp only[dy,hk];exact tn he,m1⟩
 |.cond c a b,ga,p,Γ,d,q,h,K,ag,aa=>by
  simp only[mZ] at aa
  split at aa
  · cases aa
  · rename_i s hs
    have jZ:g9 0 [] (cW Γ) (cJ P (dL fn) [] c)=some s.den:=by rw[show([]:List I)=aF.bZ [] from rfl,<-vJ,hs];rfl
    obtain⟨ae,aS⟩:=Bq _ aa
    have ao:=aF.pJ ae
    rcases aS with⟨ba,aq⟩|⟨ba,aq⟩
    · rw[ba] at ao
      obtain⟨_,ay,_⟩:=vL (x:=.i_) hs ao
      obtain⟨e,hp,d1,a8,ab,r1,bH⟩:=sb a ga (p++[0]) _ d q h K (by rw[jv,ag];simp[sub]) (oE aq)
      refine⟨e,hp,d1,a8,ab,λr aj=>?_,bH⟩
      obtain⟨m0,hk,m1⟩:=r1 r (by rw[ay];exact aj)
      exact⟨m0,by simp only at hk;simp only[dy,vK aj jZ,ao,hk],m1⟩
    · rw[ba] at ao
      obtain⟨_,ay,_⟩:=vL (x:=.j1) hs ao
      obtain⟨e,hp,d1,a8,ab,r1,bH⟩:=sb b ga (p++[1]) _ d q h K (by rw[jv,ag];simp[sub]) (oE aq)
      refine⟨e,hp,d1,a8,ab,λr aj=>?_,bH⟩
      obtain⟨m0,hk,m1⟩:=r1 r (by rw[ay];exact aj)
      exact⟨m0,by simp only at hk;simp only[dy,vK aj jZ,ao,hk],m1⟩
 |.block id b,ga,p,Γ,d,q,h,K,ag,aa=>by
  obtain⟨e,hp,d1,a8,ab,r1,bH⟩:=sb b id (p++[0]) Γ d q h _ (by rw[jv,ag];simp[sub]) aa
  cases e with
  |exit i=>
   simp only at bH
   cases af:Nat.beq i id with
   |true=>
    rw[af] at bH
    obtain rfl:=Nat.eq_of_beq_eq_true af
    exact⟨.nrm,hp,d1,a8,ab,λr aj=>by
     obtain⟨m0,hk,m1⟩:=r1 r aj
     exact⟨m0,by simp only at hk;simp only[dy,hk,if_true],m1⟩,bH⟩
   |false=>
    rw[af] at bH
    have cS:¬i=id:=by intro cF;subst cF;simp at af
    exact⟨.exit i,hp,d1,a8,ab,λr aj=>by
     obtain⟨m0,hk,m1⟩:=r1 r aj
     exact⟨m0,by simp only at hk;simp only[dy,hk,if_neg cS],m1⟩,bH⟩
  |_=>
   exact⟨_,hp,d1,a8,ab,λr aj=>by
    obtain⟨m0,hk,m1⟩:=r1 r aj
    exact⟨m0,by simp only at hk;simp only[dy,hk],m1⟩,bH⟩
 |.loop b,ga,p,Γ,d,q,h,K,ag,aa=>by
  have:=KT aa;rw[ag] at this;exact this
 |.rangeFunc f ps as cn,ga,p,Γ,d,q,h,K,ag,aa=>by
  have:=KT aa;rw[ag] at this;exact this
 |.goto _,ga,p,Γ,d,q,h,K,ag,aa=>by simp only[mZ] at aa;cases aa
 |.refuse _,ga,p,Γ,d,q,h,K,ag,aa=>by simp only[mZ] at aa;cases aa
def KU(P:Program)(fn:Func)(call:aI->List I->J->av)(pl:kI)(b8:List Nat)(path:List Nat)(Γ:c_)(d:List bU)(q:bF)(h:J)(Q:bn->ah->Prop):Prop:=
 (mZ P call fn (dL fn) pl (sub (e9 fn) path) 0 path Γ d q h λe Γ d q h=>.mk (Q e ⟨mR (cW Γ) b8,d,q,h⟩)).p
theorem dB(pl:kI)(b8:List Nat)(Γ:c_){cq:Env}{path:List Nat}{d:List bU}{q:bF}{h:J}{Q:bn->ah->Prop}(cQ:cW Γ=cq)(H:KU P fn call pl b8 path Γ d q h Q):a3 P fn call path ⟨cq,d,q,h⟩ Q:=by
 subst cQ
 obtain⟨e,hp,d1,a8,ab,r1,bH⟩:=sb _ 0 path Γ d q h _ rfl H
 exact⟨e,_,c5.post r1 (By _ b8),bH⟩
def KV(P:Program)(fn:Func)(R:av->Prop):ud:=λe Γ d q h=>match d with
 |[]=>match e with
  |.b6 v=>.mk (R (.b6 v h))
  |.ret|.nrm=>match r0 P (dL fn) fn (cW Γ) h with
   |some v=>.mk (R (.ret v h))
   |none=>bad "results"
  |_=>bad "end"
 |_=>bad "deferred"
def KW(P:Program)(fn:Func)(call:aI->List I->J->av)(pl:kI)(Γ:c_)(h:J)(R:av->Prop):Prop:=
 (mZ P call fn (dL fn) pl (e9 fn) 0 [] Γ [] .none h (KV P fn R)).p
theorem dI{intr:Nat->List I->J->Option (I×J)}{f n:Nat}{args:List I}{h:J}{R:av->Prop}(pl:kI)(Γ:c_)(hf:P.funcs[f]? =some fn)(ae:fn.body.isSome=true)(af:intr f args h=none)(hle:Nat.ble args.length fn.ntmps=true)(cQ:cW Γ=nJ 0 args)(H:KW P fn (fa P intr n) pl Γ h R):R (fa P intr (n+1) (.fn f) args h):=by
 refine EI hf ae af hle (Q:=λe s=>s.d=[]/\((∃v,e=.b6 v/\R (.b6 v s.h))\/((e=.ret\/e=.nrm)/\∃v,r0 P (dL fn) fn s.Γ s.h=some v/\R (.ret v s.h)))) ?_ λe s aM=>?_
 · have hs:sub (e9 fn) []=e9 fn:=by cases e9 fn<;>rfl
   obtain⟨e,hp,d1,a8,ab,r1,bH⟩:=sb (e9 fn) 0 [] Γ [] .none h _ hs H
   rw[cQ] at r1
   refine⟨e,⟨cW hp,d1,a8,ab⟩,by unfold aL;rw[hs];exact r1,?_⟩
   unfold KV at bH
   split at bH
   · refine⟨rfl,?_⟩
     split at bH
     · exact .inl ⟨_,rfl,bH⟩
     · split at bH
       · rename_i v aC;exact .inr ⟨.inl rfl,v,aC,bH⟩
       · cases bH
     · split at bH
       · rename_i v aC;exact .inr ⟨.inr rfl,v,aC,bH⟩
       · cases bH
     · cases bH
   · cases bH
 · obtain⟨ao,aM⟩:=aM
   rcases aM with⟨v,rfl,aj⟩|⟨he,v,aC,aj⟩
   · exact .inr ⟨v,rfl,ao,aj⟩
   · exact .inl ⟨he,ao,v,aC,aj⟩
end
attribute [irreducible] KU KW
end aP
