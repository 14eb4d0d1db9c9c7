/-
  PROVED HERE: contracts of functions (Tx). No condition beside each statement's own.
-/
import Derived.Test.YtfooahfebojldaaGreatDoorSxb
set_option linter.unusedVariables false
set_option linter.unusedSimpArgs false
namespace aD
open Go
inductive Stop(iy:String):Prop
inductive cQ where
 |mk (p:Prop)
def cQ.p:cQ->Prop
 |.mk p=>p
abbrev bad(w:String):cQ:=.mk (Stop w)
abbrev fW(p:Prop)(k:cQ):cQ:=.mk (p/\k.p)
abbrev eb{α:Type}(f:α->cQ):cQ:=.mk (∃x:α,(f x).p)
abbrev w_(c c':Prop)(a b:cQ):cQ:=.mk ((c->a.p)/\(c'->b.p))
inductive aF where
 |v (a:I)
 |o (a:I)
 |jt|ju
 |lt (i n:Nat)|le (i n:Nat)|eq (i n:Nat)
 |cm (s:aF)
 |eD (l:List aF)
 |jS (l:List aF)
def aF.kf:aF->Bool
 |.jt=>true
 |.ju=>false
 |.lt i n=>bC (.ofNat i) (.ofNat n)
 |.le i n=>dn (.ofNat i) (.ofNat n)
 |.eq i n=>a7 (.ofNat i) (.ofNat n)
 |.cm s=>!s.kf
 |.v (.bool b)=>b
 |_=>false
def aF.sN:aF->Bool
 |.jt|.ju|.lt _ _|.le _ _|.eq _ _|.cm _=>true
 |.v (.bool _)=>true
 |_=>false
mutual
def aF.den:aF->I
 |.v a=>a
 |.o a=>a
 |.jt=>.bool true
 |.ju=>.bool false
 |.lt i n=>.bool (bC (.ofNat i) (.ofNat n))
 |.le i n=>.bool (dn (.ofNat i) (.ofNat n))
 |.eq i n=>.bool (a7 (.ofNat i) (.ofNat n))
 |.cm s=>.bool (!s.kf)
 |.eD l=>.agg (aF.b3 l)
 |.jS l=>.aW (aF.b3 l)
def aF.b3:List aF->List I
 |[]=>[]
 |s::l=>s.den::aF.b3 l
end
def k4:I->aF
 |.bool true=>.jt
 |.bool false=>.ju
 |v=>.v v
abbrev dh:=List (Nat×aF)
def c0:dh->Env
 |[]=>[]
 |(t,s)::l=>(t,s.den)::c0 l
def sO(t:Nat):dh->Option aF
 |[]=>none
 |(u,s)::l=>match Nat.beq t u with
  |true=>some s
  |false=>sO t l
def sP:Nat->List aF->Option aF
 |_,[]=>none
 |0,s::_=>some s
 |n+1,_::l=>sP n l
def sQ:Nat->aF->List aF->List aF
 |_,_,[]=>[]
 |0,x,_::l=>x::l
 |n+1,x,s::l=>s::sQ n x l
def z5(t:Nat)(x:aF):dh->dh
 |[]=>[]
 |(u,s)::l=>match Nat.beq t u with
  |true=>(u,x)::l
  |false=>(u,s)::z5 t x l
def lL(m:Nat)(env:List aF)(Γ:dh):Acc->Option aF
 |.env j=>match Nat.blt j m with
  |true=>sP (m-1-j) env
  |false=>none
 |.reg p=>sO p.num Γ
 |.val v=>some (k4 v)
def uB(m:Nat)(a:Acc)(b:aF)(env:List aF):List aF:=match a with
 |.env j=>sQ (m-1-j) b env
 |_=>env
def sR(a:Acc)(b:aF)(Γ:dh):dh:=match a with
 |.reg p=>z5 p.num b Γ
 |_=>Γ
def aF.lM(s:aF)(K:aF->cQ):cQ:=match s with
 |.v a=>K (.v a)
 |.o a=>K (.o a)
 |.jt=>K .jt
 |.ju=>K .ju
 |.lt i n=>K (.lt i n)
 |.le i n=>K (.le i n)
 |.eq i n=>K (.eq i n)
 |.cm s=>K (.cm s)
 |.eD l=>K (.eD l)
 |.jS l=>K (.jS l)
def q5:List aF->(List aF->cQ)->cQ
 |[],K=>K []
 |s::l,K=>s.lM λs=>q5 l λl=>K (s::l)
def nf:dh->(dh->cQ)->cQ
 |[],K=>K []
 |(t,s)::l,K=>s.lM λs=>nf l λl=>K ((t,s)::l)
inductive jT where
 |ty (t:TypeId)
 |is (v:I)|io (v:I)
 |z (k:IntKind)
 |n (k:IntKind)
 |o
 |p|I3
 |st|b
 |gh|z6 (c:b5)
 |jS (l:List jT)|eD (l:List jT)
 |I4 (t:TypeId) (s:jT)
 |fn (f:Nat) (k:Nat)
inductive oV where
 |b2 (s:jT)
 |t|f
 |p (s:jT)
 |e (r:Option jT) (s:jT)
 |ik (ins:List Nat) (outs:List (bF×List (Nat×jT)))
def Dx:List aF->List aF
 |[]=>[]
 |.eD l::r=>l++Dx r
 |s::r=>s::Dx r
abbrev kg:=List (Nat×oV)
def sS(k:Nat):kg->Option oV
 |[]=>none
 |(j,o)::l=>match Nat.beq k j with
  |true=>some o
  |false=>sS k l
mutual
def shape(P:Program):Nat->jT->(aF->cQ)->cQ
 |0,_,_=>bad "shape"
 |n+1,s,K=>match s with
  |.is v=>K (k4 v)
  |.io v=>K (.o v)
  |.z k=>eb λx:Int=>K (.o (.int k x))
  |.n k=>eb λx:Nat=>K (.v (.int k (.ofNat x)))
  |.o=>eb λx:I=>K (.o x)
  |.p=>eb λx:Nat=>K (.v (.ptr x 0))
  |.I3=>eb λx:Nat=>eb λy:Nat=>K (.v (.ptr x y))
  |.st=>eb λx:List UInt8=>K (.v (.str x))
  |.b=>eb λx:Bool=>K (.v (.bool x))
  |.gh=>eb λx:Nat=>eb λy:Nat=>eb λz:Nat=>eb λc:b5=>K (.v (.slice x y z c))
  |.z6 c=>eb λx:Nat=>eb λz:Nat=>K (.v (.slice x 0 z c))
  |.jS l=>q6 P n l λr=>K (.jS r)
  |.eD l=>q6 P n l λr=>K (.eD r)
  |.I4 t s=>shape P n s λx=>K (.v (.iface t x.den))
  |.fn f k=>eb λx:List I=>K (.v (.fn f [] x))
  |.ty t=>match P.underlying t with
   |some .bool=>eb λx:Bool=>K (.v (.bool x))
   |some (.int k)=>eb λx:Nat=>K (.v (.int k (.ofNat x)))
   |some .string=>eb λx:List UInt8=>K (.v (.str x))
   |some (.pointer _)=>eb λx:Nat=>K (.v (.ptr x 0))
   |some (.struct cu)=>q6 P n (cu.toList.map λf=>.ty f.type) λr=>K (.eD (Dx r))
   |some (.tuple ts)=>q6 P n (ts.toList.map .ty) λr=>K (.jS r)
   |some .invalid=>K (.v (.aW []))
   |some _=>eb λx:I=>K (.o x)
   |none=>K (.v (.aW []))
def q6(P:Program):Nat->List jT->(List aF->cQ)->cQ
 |0,_,_=>bad "shapes"
 |n+1,l,K=>match l with
  |[]=>K []
  |s::l=>shape P n s λx=>q6 P n l λr=>K (x::r)
end
def aF.cA(eB:Option Bool)(A B:cQ):aF->cQ
 |.jt=>A
 |.ju=>B
 |.lt i n=>match eB with
  |none=>w_ (i<n) (¬i<n) A B
  |some true=>fW (i<n) A
  |some false=>fW (¬i<n) B
 |.le i n=>match eB with
  |none=>w_ (i<=n) (¬i<=n) A B
  |some true=>fW (i<=n) A
  |some false=>fW (¬i<=n) B
 |.eq i n=>match eB with
  |none=>w_ (i=n) (¬i=n) A B
  |some true=>fW (i=n) A
  |some false=>fW (¬i=n) B
 |.cm s=>s.cA (match eB with|none=>none|some b=>some (!b)) B A
 |.v (.bool x)=>match eB with
  |none=>w_ (x=true) (x=false) A B
  |some true=>fW (x=true) A
  |some false=>fW (x=false) B
 |_=>bad "choice"
def z7(o:Option oV):Option Bool:=match o with
 |some .t=>some true
 |some .f=>some false
 |_=>none
def Dy(o:Option oV)(t:TypeId):jT:=match o with
 |some (.b2 s)=>s
 |_=>.ty t
def Dz(op:BinOp)(x y:aF):Option aF:=match x,y with
 |.v (.int k (.ofNat a)),.v (.int dA (.ofNat b))=>match decide (k=dA) with
  |true=>match op with
   |.lss=>some (.lt a b)
   |.leq=>some (.le a b)
   |.gtr=>some (.lt b a)
   |.geq=>some (.le b a)
   |.eql=>some (.eq a b)
   |.neq=>some (.cm (.eq a b))
   |_=>none
  |false=>none
 |_,_=>none
def DA(op:BinOp)(x y:aF):Option (Prop×I):=match x,y with
 |.v (.int k (.ofNat a)),.v (.int dA (.ofNat b))=>match decide (k=dA),op,k with
  |true,.add,.i64=>some (a+b<9223372036854775808,.int .i64 (.ofNat (a+b)))
  |true,.sub,.i64=>some (b<=a/\a<9223372036854775808,.int .i64 (.ofNat (a-b)))
  |true,.mul,.i64=>some (a*b<9223372036854775808,.int .i64 (.ofNat (a*b)))
  |true,.add,.u64=>some (a+b<18446744073709551616,.int .u64 (.ofNat (a+b)))
  |true,.sub,.u64=>some (b<=a/\a<18446744073709551616,.int .u64 (.ofNat (a-b)))
  |_,_,_=>none
 |.v (.str a),.v (.str b)=>match op with
  |.add=>some (a.length+b.length<=1000000000000,.str (a++b))
  |_=>none
 |_,_=>none
def sU:aF->List I
 |.o a=>[a]
 |s=>s.den.cells
def sV:List aF->cQ->cQ
 |[],K=>K
 |.o a::l,K=>fW (a.bY=true) (sV l K)
 |_::l,K=>sV l K
def sW:List aF->Bool
 |[]=>true
 |.o _::l=>sW l
 |s::l=>s.den.bY&&sW l
def uC(s:aF)(K:cQ):cQ:=match s with
 |.o a=>fW (a.bY=true) K
 |.eD l=>match sW l with
  |true=>sV l K
  |false=>bad "cells"
 |s=>match s.den.cells.all I.bY with
  |true=>K
  |false=>bad "cells"
def mu:aF->List aF
 |.eD l=>l
 |.v (.agg cs)=>cs.map k4
 |s=>[s]
def aF.DB:aF->Bool
 |.o _=>true
 |_=>false
def sX(place:Nat->Option (Nat×Nat)):List aF->List (Nat×aF)->Option (List aF)
 |cells,[]=>some cells
 |cells,(i,s)::rest=>match place i with
  |none=>none
  |some (off,size)=>match Nat.beq (mu s).length size&&Nat.ble (off+size) cells.length with
   |true=>sX place (cells.take off++mu s++(cells.drop off).drop (mu s).length) rest
   |false=>none
def ng:List (Nat×aF)->List aF
 |[]=>[]
 |(_,s)::l=>mu s++ng l
def z8(P:Program)(t:TypeId)(len:Nat)(ps:List (Nat×aF))(K:TypeId->List aF->cQ):cQ:=match P.underlying t with
 |some (.slice e)=>match dt P e,ew P e with
  |some sz,some z=>match Nat.ble (len*sz) 16777216&&Nat.beq z.cells.length sz,(if len*sz=0 then[] else eT len z.cells).all I.bY,sX (λi=>some (i*sz,sz)) ((if len*sz=0 then[] else eT len z.cells).map k4) ps,sW (ng ps) with
   |true,true,some cs,true=>sV (ng ps) (q5 cs λcs=>K e cs)
   |_,_,_,_=>bad "buildSlice"
  |_,_=>bad "buildSlice"
 |_=>bad "buildSlice"
def ei(a b:Bool):Bool:=a==b
def DC(P:Program)(op:BinOp)(t:TypeId)(x y:aF):Option aF:=match x.sN&&y.sN,P.underlying t,op with
 |true,some .bool,.eql=>some (.v (.bool (ei x.kf y.kf)))
 |true,some .bool,.neq=>some (.cm (.v (.bool (ei x.kf y.kf))))
 |_,_,_=>none
def Q0(x y:aF):Bool:=match x,y with
 |.v (.ptr _ _),.v .aR|.v .aR,.v .aR|.v (.slice _ _ _ _),.v .a_|.v .a_,.v .a_|.v (.iface _ _),.v .eO|.v .eO,.v .eO=>true
 |_,_=>false
section
variable (P:Program) (inR:Bool) (call:ay->List I->J->an)
abbrev oW:=aF->List b1->bJ->J->cQ
abbrev oX:=I->List b1->bJ->J->cQ
def z9(eB:Option oV)(t:TypeId)(f:ay)(args:List I)(d:List b1)(q:bJ)(h:J)(K:oW)(dR:oX):cQ:=match eB with
 |some (.p s)=>shape P 9 s λx=>eb λg:J=>fW (call f args h=.b9 x.den g) (dR x.den d q g)
 |some (.e r s)=>.mk ((shape P 9 (match r with|some r=>r|none=>.ty t) λx=>eb λg:J=>fW (call f args h=.ret x.den g) (K x d q g)).p\/(shape P 9 s λx=>eb λg:J=>fW (call f args h=.b9 x.den g) (dR x.den d q g)).p)
 |eB=>shape P 9 (Dy eB t) λx=>eb λg:J=>fW (call f args h=.ret x.den g) (K x d q g)
def pU(eB:Option oV)(o:Oper)(g:Operand->aF)(d:List b1)(q:bJ)(h:J)(K:oW)(dR:oX):cQ:=
 match C5 o (λx=>(g x).den) with
 |0=>match cM P o (λx=>(g x).den) h with
  |.val v al=>match eB with
   |some (.b2 .o)=>K (.o v) d q al
   |_=>K (.v v) d q al
  |.b9 v al=>dR v d q al
  |.call f args al=>z9 P call eB o.type (.fn f) args d q al K dR
  |.cc l args al=>z9 P call eB o.type (.cc l) args d q al K dR
  |.jG x=>match inR with
   |true=>bad "defer"
   |false=>K (.v (.aW [])) (x::d) q h
  |.rQ=>match inR with
   |true=>bad "recover"
   |false=>match q with
    |.none=>K (.v .eO) d .none h
    |.done v=>K (.v .eO) d (.done v) h
    |.act v=>K (.v v) d (.done v) h
  |.fail w=>bad w
 |1=>shape P 9 (Dy eB o.type) λx=>fW (nO P o (λy=>(g y).den) h x.den) (K x d q h)
 |_=>shape P 9 (Dy eB o.type) λx=>eb λal:J=>fW (ur P o (λy=>(g y).den) h x.den al) (K x d q al)
def DD(eB:Option oV)(o:Oper)(g:Operand->aF)(d:List b1)(q:bJ)(h:J)(K:oW)(dR:oX):cQ:=match o.op with
 |.move x|.assign x=>(g x).lM λs=>K s d q h
 |.unOp .not _ x=>match(g x).sN with
  |true=>(g x).lM λs=>K (.cm s) d q h
  |false=>bad "not"
 |.binOp op t x y _=>(g x).lM λu=>(g y).lM λw=>match(match Dz op u w with|some s=>some s|none=>DC P op t u w) with
  |some s=>K s d q h
  |none=>match Q0 u w with
   |true=>match c7 P h op t x y u.den w.den with
    |some v=>(k4 v).lM λs=>K s d q h
    |none=>bad "nil"
   |false=>match(match eB with|none=>DA op u w|some _=>none) with
    |some (p,v)=>fW p (K (.v v) d q h)
    |none=>pU P inR call eB o g d q h K dR
 |.extract x i=>match g x with
  |.jS l=>match sP i l with
   |some s=>s.lM λs=>K s d q h
   |none=>bad "extract"
  |_=>pU P inR call eB o g d q h K dR
 |.indexAddr t x i=>match P.underlying t,g x,fB (g i).den with
  |some (.array m e),.v (.ptr b off),some n=>match dt P e with
   |some sz=>fW (n<m) (K (.v (.ptr b (off+n*sz))) d q h)
   |none=>bad "indexAddr"
  |some (.slice e),.v (.slice b off m c),some n=>match dt P e with
   |some sz=>fW (n<m) (K (.v (.ptr b (off+n*sz))) d q h)
   |none=>bad "indexAddr"
  |_,_,_=>bad "indexAddr of what"
 |.store t a x=>match(g a).den,dt P t with
  |.ptr b off,some n=>match Nat.beq (sU (g x)).length n with
   |true=>(g x).lM λs=>uC s (eb λgv:J=>fW (storeCells h b off (sU s)=some gv) (K (.v (.aW [])) d q gv))
   |false=>bad "store size"
  |_,_=>bad "store"
 |.build t parts=>match(ng (parts.toList.map λp=>(p.1,g p.2))).any aF.DB with
  |false=>pU P inR call eB o g d q h K dR
  |true=>match ew P t,P.underlying t with
   |some z,some (.struct cu)=>match cu.toList.all (λf=>(dt P f.type).isSome),sX (λi=>(cu[i]?).map λf=>(f.offset,P.cellsOf f.type)) (z.cells.map k4) (parts.toList.map λp=>(p.1,g p.2)),sW (ng (parts.toList.map λp=>(p.1,g p.2))) with
    |true,some cs,true=>sV (ng (parts.toList.map λp=>(p.1,g p.2))) (q5 cs λcs=>K (.eD cs) d q h)
    |_,_,_=>bad "build"
   |_,_=>bad "build of what"
 |.buildSlice t len parts=>match(ng (parts.toList.map λp=>(p.1,g p.2))).any aF.DB with
  |false=>pU P inR call eB o g d q h K dR
  |true=>z8 P t len (parts.toList.map λp=>(p.1,g p.2)) λe cs=>K (.v (.slice h.n 0 len (.exact len))) d q (h.push (.cells (aF.b3 cs) e .own 0 0))
 |.box e x=>(g x).lM λs=>uC s (K (.v (.ptr h.n 0)) d q (h.push (.cells (sU s) e .own 0 0)))
 |.call c=>match c.callee with
  |.builtin .len=>match c.args.toList.map g,c.argTypes[0]? with
   |[.o a],some t=>eb λn:Nat=>fW (bU P h t a=some (.int .i64 (.ofNat n))) (K (.v (.int .i64 (.ofNat n))) d q h)
   |_,_=>pU P inR call eB o g d q h K dR
  |_=>pU P inR call eB o g d q h K dR
 |_=>pU P inR call eB o g d q h K dR
end
end aD
namespace aD
open Go
theorem aF.oY{s:aF}(h:s.sN=true):s.den=.bool s.kf:=by
 cases s with
 |v a=>cases a<;>first|rfl|cases h
 |o a=>cases h
 |eD l=>cases h
 |jS l=>cases h
 |jt=>rfl
 |ju=>rfl
 |lt i n=>rfl
 |le i n=>rfl
 |eq i n=>rfl
 |cm s=>rfl
theorem xa(a:I):(k4 a).den=a:=by
 unfold k4;split<;>rfl
theorem DE:∀(n:Nat) (l:List aF),(sP n l).map aF.den=nth n (aF.b3 l)
 |0,[]=>rfl
 |_+1,[]=>rfl
 |0,x::l=>rfl
 |n+1,x::l=>DE n l
theorem I5(n:Nat)(l:List aF)(s:aF)(h:sP n l=some s):nth n (aF.b3 l)=some s.den:=by
 rw[<-DE,h];rfl
theorem I6(t:Nat):∀Γ:dh,(sO t Γ).map aF.den=fh t (c0 Γ)
 |[]=>rfl
 |(u,x)::l=>by
  simp only[sO,c0,fh]
  cases af:Nat.beq t u with
  |true=>rfl
  |false=>exact I6 t l
def gV(m:Nat)(l:List I)(G:Env):Acc->Option I
 |.env j=>match Nat.blt j m with
  |true=>nth (m-1-j) l
  |false=>none
 |.reg p=>fh p.num G
 |.val v=>some v
theorem uD(m:Nat)(env:List aF)(Γ:dh)(a:Acc):(lL m env Γ a).map aF.den=gV m (aF.b3 env) (c0 Γ) a:=by
 cases a with
 |env j=>
  simp only[lL,gV]
  cases Nat.blt j m with
  |true=>exact DE _ _
  |false=>rfl
 |reg p=>exact I6 _ _
 |val v=>simp only[lL,gV,Option.map_some,xa]
theorem uE{m:Nat}{l:List I}{G:Env}{r:aT}(hm:Mod r G){a:Acc}{v:I}(h:gV m l G a=some v):dU m l r a=v:=by
 cases a with
 |env j=>
  simp only[gV] at h
  split at h
  · simp only[dU,h,Option.getD_some]
  · cases h
 |reg p=>simp only[gV] at h;simp only[dU];rw[<-Iu p];exact hm _ _ h
 |val x=>cases h;rfl
theorem xb{m:Nat}{l:List I}{G:Env}{a:Acc}{v:I}(x:I)(h:gV m l G a=some v):gV (m+1) (x::l) G a=some v:=by
 cases a with
 |env j=>
  simp only[gV] at h⊢
  split at h
  · rename_i af
    have aL:j<m:=by simpa using af
    have di:Nat.blt j (m+1)=true:=by simp;omega
    rw[di]
    have:m+1-1-j=(m-1-j)+1:=by omega
    rw[this];exact h
  · cases h
 |reg p=>exact h
 |val x=>exact h
theorem I7(x:aF):∀(n:Nat) (l:List aF),(∀s,sP n l=some s->s.den=x.den)->aF.b3 (sQ n x l)=aF.b3 l
 |0,[],_=>rfl
 |_+1,[],_=>rfl
 |0,s::l,h=>by simp only[sQ,aF.b3,h s rfl]
 |n+1,s::l,h=>by simp only[sQ,aF.b3];rw[I7 x n l h]
theorem I8(x:aF):∀(n:Nat) (l:List aF),(sQ n x l).length=l.length
 |0,[]=>rfl
 |_+1,[]=>rfl
 |0,s::l=>rfl
 |n+1,s::l=>by simp only[sQ,List.length_cons,I8 x n l]
theorem I9(t:Nat)(x:aF):∀Γ:dh,(∀s,sO t Γ=some s->s.den=x.den)->c0 (z5 t x Γ)=c0 Γ
 |[],_=>rfl
 |(u,s)::l,h=>by
  simp only[z5]
  simp only[sO] at h
  cases af:Nat.beq t u with
  |true=>rw[af] at h;simp only[c0,h s rfl]
  |false=>rw[af] at h;simp only[c0];rw[I9 t x l h]
theorem uF{m:Nat}{env:List aF}{Γ:dh}{a:Acc}{s x:aF}(h:lL m env Γ a=some s)(e:s.den=x.den):aF.b3 (uB m a x env)=aF.b3 env/\c0 (sR a x Γ)=c0 Γ/\(uB m a x env).length=env.length:=by
 cases a with
 |env j=>
  simp only[lL] at h
  split at h
  · exact⟨I7 x _ _ λbM hs=>by rw[h] at hs;cases hs;exact e,rfl,I8 _ _ _⟩
  · cases h
 |reg p=>exact⟨rfl,I9 _ _ _ λbM hs=>by rw[show sO p.num Γ=some s from h] at hs;cases hs;exact e,rfl⟩
 |val v=>exact⟨rfl,rfl,rfl⟩
theorem aF.lN{s:aF}{K:aF->cQ}(h:(s.lM K).p):(K s).p:=by cases s<;>exact h
theorem sY:∀{l:List aF} {K:List aF->cQ},(q5 l K).p->(K l).p
 |[],_,h=>h
 |s::l,K,h=>sY (l:=l) (aF.lN h)
theorem nR:∀{l:dh} {K:dh->cQ},(nf l K).p->(K l).p
 |[],_,h=>h
 |(t,s)::l,K,h=>nR (l:=l) (aF.lN h)
theorem I_{P:Program}:∀(n:Nat),(∀(s:jT) (K:aF->cQ),(shape P n s K).p->∃x,(K x).p)/\(∀(l:List jT) (K:List aF->cQ),(q6 P n l K).p->∃x,(K x).p)
 |0=>⟨λs K h=>(by simp only[shape] at h;cases h),λl K h=>(by simp only[q6] at h;cases h)⟩
 |n+1=>by
  obtain⟨aa,ad⟩:=I_ (P:=P) n
  refine⟨λs K h=>?_,λl K h=>?_⟩
  · simp only[shape] at h
    cases s with
    |is v=>exact⟨_,h⟩
    |io v=>exact⟨_,h⟩
    |z k=>obtain⟨x,h⟩:=h;exact⟨_,h⟩
    |n k=>obtain⟨x,h⟩:=h;exact⟨_,h⟩
    |o=>obtain⟨x,h⟩:=h;exact⟨_,h⟩
    |p=>obtain⟨x,h⟩:=h;exact⟨_,h⟩
    |I3=>obtain⟨x,y,h⟩:=h;exact⟨_,h⟩
    |st=>obtain⟨x,h⟩:=h;exact⟨_,h⟩
    |b=>obtain⟨x,h⟩:=h;exact⟨_,h⟩
    |gh=>obtain⟨x,y,z,c,h⟩:=h;exact⟨_,h⟩
    |z6 c=>obtain⟨x,z,h⟩:=h;exact⟨_,h⟩
    |jS l=>obtain⟨r,h⟩:=ad _ _ h;exact⟨_,h⟩
    |eD l=>obtain⟨r,h⟩:=ad _ _ h;exact⟨_,h⟩
    |I4 t s=>obtain⟨r,h⟩:=aa _ _ h;exact⟨_,h⟩
    |fn f k=>obtain⟨x,h⟩:=h;exact⟨_,h⟩
    |ty t=>
     simp only at h
     split at h
     · obtain⟨x,h⟩:=h;exact⟨_,h⟩
     · obtain⟨x,h⟩:=h;exact⟨_,h⟩
     · obtain⟨x,h⟩:=h;exact⟨_,h⟩
     · obtain⟨x,h⟩:=h;exact⟨_,h⟩
     · obtain⟨r,h⟩:=ad _ _ h;exact⟨_,h⟩
     · obtain⟨r,h⟩:=ad _ _ h;exact⟨_,h⟩
     · exact⟨_,h⟩
     · obtain⟨x,h⟩:=h;exact⟨_,h⟩
     · exact⟨_,h⟩
  · simp only[q6] at h
    cases l with
    |nil=>exact⟨_,h⟩
    |cons s l=>
     obtain⟨x,h⟩:=aa _ _ h
     obtain⟨r,h⟩:=ad _ _ h
     exact⟨_,h⟩
theorem sZ{P:Program}{n:Nat}{s:jT}{K:aF->cQ}(h:(shape P n s K).p):∃x,(K x).p:=(I_ n).1 s K h
theorem DF{p:Prop}{A B:cQ}{eB:Option Bool}(h:(match eB with
  |none=>w_ p (¬p) A B
  |some true=>fW p A
  |some false=>fW (¬p) B).p):(p/\A.p)\/(¬p/\B.p):=by
 cases eB with
 |none=>by_cases bl:p
        · exact .inl ⟨bl,h.1 bl⟩
        · exact .inr ⟨bl,h.2 bl⟩
 |some b=>cases b with
  |true=>exact .inl h
  |false=>exact .inr h
theorem z_:∀(s:aF) {eB:Option Bool} {A B:cQ},(s.cA eB A B).p->s.sN=true/\((s.kf=true/\A.p)\/(s.kf=false/\B.p))
 |.jt,_,_,_,h=>⟨rfl,.inl ⟨rfl,h⟩⟩
 |.ju,_,_,_,h=>⟨rfl,.inr ⟨rfl,h⟩⟩
 |.lt i n,eB,A,B,h=>by
  refine⟨rfl,?_⟩
  rcases DF (p:=i<n) h with⟨aa,ad⟩|⟨aa,ad⟩
  · exact .inl ⟨ds aa,ad⟩
  · exact .inr ⟨eh aa,ad⟩
 |.le i n,eB,A,B,h=>by
  refine⟨rfl,?_⟩
  rcases DF (p:=i<=n) h with⟨aa,ad⟩|⟨aa,ad⟩
  · exact .inl ⟨iV aa,ad⟩
  · exact .inr ⟨js aa,ad⟩
 |.eq i n,eB,A,B,h=>by
  refine⟨rfl,?_⟩
  rcases DF (p:=i=n) h with⟨aa,ad⟩|⟨aa,ad⟩
  · exact .inl ⟨sM aa,ad⟩
  · exact .inr ⟨k3 aa,ad⟩
 |.cm s,eB,A,B,h=>by
  refine⟨rfl,?_⟩
  simp only[aF.cA] at h
  obtain⟨_,ad⟩:=z_ s h
  simp only[aF.kf]
  rcases ad with⟨e,k⟩|⟨e,k⟩
  · right;exact⟨by rw[e];rfl,k⟩
  · left;exact⟨by rw[e];rfl,k⟩
 |.v a,eB,A,B,h=>by
  cases a<;>simp only[aF.cA] at h<;>first|(cases h;done)|skip
  rename_i x
  refine⟨rfl,?_⟩
  simp only[aF.kf]
  cases x with
  |true=>left;refine⟨rfl,?_⟩;cases eB with
   |none=>exact h.1 rfl
   |some b=>cases b with
    |true=>exact h.2
    |false=>cases h.1
  |false=>right;refine⟨rfl,?_⟩;cases eB with
   |none=>exact h.2 rfl
   |some b=>cases b with
    |true=>cases h.1
    |false=>exact h.2
 |.o a,_,_,_,h=>by simp only[aF.cA] at h;cases h
 |.eD l,_,_,_,h=>by simp only[aF.cA] at h;cases h
 |.jS l,_,_,_,h=>by simp only[aF.cA] at h;cases h
section
variable {P:Program} {inR:Bool} {call:ay->List I->J->an}
def hB(x:vJ)(K:oW)(dR:oX):Prop:=(∃s d q h,x=.ok (aF.den s) d q h/\(K s d q h).p)\/∃v d q h,x=.b9 v d q h/\(dR v d q h).p
theorem hB.val{o:Oper}{g:Operand->I}{d:List b1}{q:bJ}{h al:J}{K:oW}{dR:oX}{s:aF}(e:cM P o g h=.val s.den al)(k:(K s d q al).p):hB (dV P inR call none o g d q h) K dR:=
 .inl ⟨s,d,q,al,by simp only[dV,ey,e],k⟩
theorem xc{K:cQ}:∀(l:List aF),sW l=true->(sV l K).p->(aF.b3 l).all I.bY=true/\K.p
 |[],_,h=>⟨rfl,h⟩
 |x::l,aw,h=>by
  cases x with
  |o a=>
   obtain⟨aa,ad⟩:=h
   obtain⟨b4,b0⟩:=xc l aw ad
   exact⟨by simp only[aF.b3,List.all_cons,aF.den,aa,b4,Bool.and_self],b0⟩
  |_=>
   simp only[sW,Bool.and_eq_true] at aw
   simp only[sV] at h
   obtain⟨b4,b0⟩:=xc l aw.2 h
   exact⟨by simp only[aF.b3,List.all_cons,aw.1,b4,Bool.and_self],b0⟩
theorem DG{s:aF}{K:cQ}(h:(uC s K).p):s.den.cells=sU s/\(sU s).all I.bY=true/\K.p:=by
 cases s with
 |o a=>
  obtain⟨aa,ad⟩:=h
  refine⟨?_,by simp[sU,aa],ad⟩
  show a.cells=[a]
  cases a<;>first|rfl|cases aa
 |eD l=>
  simp only[uC] at h
  split at h
  · rename_i aw;exact⟨rfl,xc l aw h⟩
  · cases h
 |_=>
  simp only[uC] at h
  split at h
  · rename_i aw;exact⟨rfl,aw,h⟩
  · cases h
theorem k5:∀l:List aF,aF.b3 l=l.map aF.den
 |[]=>rfl
 |s::l=>by simp only[aF.b3,List.map_cons,k5 l]
theorem Q1{s:aF}(h:(aF.b3 (mu s)).all I.bY=true):s.den.cells=aF.b3 (mu s)/\s.den≠ .bad:=by
 have one:∀a:I,a.bY=true->a.cells=[a]/\a≠ .bad:=λa a2=>by cases a<;>first|(cases a2;done)|exact⟨rfl,λh=>by cases h⟩
 have key:mu s=[s]->s.den.cells=aF.b3 (mu s)/\s.den≠ .bad:=λe=>by
  rw[e] at h⊢
  simp only[aF.b3,List.all_cons,List.all_nil,Bool.and_true] at h⊢
  exact one _ h
 cases s with
 |eD l=>exact⟨rfl,nofun⟩
 |v a=>
  cases a with
  |agg cs=>
   refine⟨?_,nofun⟩
   show cs=aF.b3 (cs.map k4)
   rw[k5,List.map_map]
   have:aF.den∘k4=id:=funext xa
   rw[this,List.map_id]
  |_=>exact key rfl
 |_=>exact key rfl
theorem Q2{place:Nat->Option (Nat×Nat)}{cells:List I}{i:Nat}{v:I}{rest:List (Nat×I)}{off size:Nat}(aE:v≠ .bad)(bl:place i=some (off,size))(af:(Nat.beq v.cells.length size&&Nat.ble (off+size) cells.length)=true){cs:List I}(ah:ff off v.cells cells=some cs):jg place cells ((i,v)::rest)=jg place cs rest:=by
 cases v<;>first|exact absurd rfl aE|simp only[jg,bl,af,ah]
theorem DH{place:Nat->Option (Nat×Nat)}:∀(ps:List (Nat×aF)) (cells cs:List aF),sX place cells ps=some cs->(aF.b3 (ng ps)).all I.bY=true->jg place (aF.b3 cells) (ps.map λp=>(p.1,p.2.den))=some (aF.b3 cs)
 |[],cells,cs,h,_=>by cases h;rfl
 |(i,s)::rest,cells,cs,h,a2=>by
  simp only[ng,k5,List.map_append,List.all_append,Bool.and_eq_true] at a2
  rw[<-k5,<-k5] at a2
  obtain⟨b4,b0⟩:=Q1 a2.1
  simp only[sX] at h
  split at h
  · cases h
  · rename_i off size bl
    split at h
    · rename_i af
      have au:(aF.b3 (mu s)).length=(mu s).length:=by rw[k5,List.length_map]
      have ah:(aF.b3 cells).length=cells.length:=by rw[k5,List.length_map]
      have di:=af
      simp only[Bool.and_eq_true,Nat.ble_eq] at di
      have bL:=Nat.eq_of_beq_eq_true di.1
      have vX:ff off s.den.cells (aF.b3 cells)=some (aF.b3 (cells.take off++mu s++(cells.drop off).drop (mu s).length)):=by
       have:=w6 ((aF.b3 cells).take off) (aF.b3 (mu s)) ((aF.b3 cells).drop off) a2.1 (by simp;omega)
       rw[List.length_take,Nat.min_eq_left (by omega),List.take_append_drop] at this
       rw[b4,this,au]
       simp only[k5,List.map_append,List.map_take,List.map_drop,List.append_assoc]
      rw[List.map_cons,Q2 b0 bl (by rw[b4,au,ah];exact af) vX]
      exact DH rest _ cs h a2.2
    · cases h
theorem Ja{place:Nat->Option (Nat×Nat)}:∀(ps:List (Nat×aF)) (cells cs:List aF),sX place cells ps=some cs->(aF.b3 cells).all I.bY=true->(aF.b3 (ng ps)).all I.bY=true->(aF.b3 cs).all I.bY=true
 |[],cells,cs,h,ah,_=>by cases h;exact ah
 |(i,s)::rest,cells,cs,h,ah,a2=>by
  simp only[ng,k5,List.map_append,List.all_append,Bool.and_eq_true] at a2
  rw[<-k5,<-k5] at a2
  simp only[sX] at h
  split at h
  · cases h
  · split at h
    · refine Ja rest _ cs h ?_ a2.2
      rw[k5] at ah⊢
      rw[List.all_eq_true] at ah⊢
      have aa:=a2.1
      rw[k5,List.all_eq_true] at aa
      intro x ab
      rw[List.map_append,List.map_append,List.mem_append,List.mem_append] at ab
      rcases ab with(ab|ab)|ab
      · rw[List.map_take] at ab;exact ah x (List.mem_of_mem_take ab)
      · exact aa x ab
      · rw[List.map_drop,List.map_drop] at ab;exact ah x (List.mem_of_mem_drop (List.mem_of_mem_drop ab))
    · cases h
theorem Jb{t:TypeId}{len:Nat}{ps:List (Nat×aF)}{K:TypeId->List aF->cQ}(h:(z8 P t len ps K).p):∃e sz z cs,P.underlying t=some (.slice e)/\dt P e=some sz/\ew P e=some z/\(Nat.ble (len*sz) 16777216&&Nat.beq z.cells.length sz)=true/\jg (λi=>some (i*sz,sz)) (if len*sz=0 then[] else eT len z.cells) (ps.map λp=>(p.1,p.2.den))=some (aF.b3 cs)/\(aF.b3 cs).all I.bY=true/\(K e cs).p:=by
 unfold z8 at h
 split at h
 · rename_i e hu
   split at h
   · rename_i sz z hs a4
     split at h
     · rename_i cs aa ad ax aO
       obtain⟨dD,k⟩:=xc _ aO h
       have ep:aF.b3 ((if len*sz=0 then[] else eT len z.cells).map k4)=(if len*sz=0 then[] else eT len z.cells):=by rw[k5,List.map_map,show aF.den∘k4=id from funext xa,List.map_id]
       have hf:=DH _ _ _ ax dD
       have ah:=Ja _ _ _ ax (by rw[ep];exact ad) dD
       rw[ep] at hf
       exact⟨e,sz,z,cs,hu,hs,a4,aa,hf,ah,sY k⟩
     · cases h
   · cases h
 · cases h
theorem Jc{g:Operand->aF}(parts:Array (Nat×Operand)):(parts.toList.map λp=>(p.1,g p.2)).map (λp=>(p.1,p.2.den))=parts.toList.map λp=>(p.1,(g p.2).den):=by
 rw[List.map_map];rfl
theorem Jd{eB:Option oV}{t:TypeId}{f:ay}{args:List I}{d:List b1}{q:bJ}{h:J}{K:oW}{dR:oX}(ab:(z9 P call eB t f args d q h K dR).p):hB (vK d q (call f args h)) K dR:=by
 unfold z9 at ab
 split at ab
 · obtain⟨x,g,e,k⟩:=sZ ab
   rw[e];exact .inr ⟨_,_,_,_,rfl,k⟩
 · rcases ab with ab|ab
   · obtain⟨x,g,e,k⟩:=sZ ab
     rw[e];exact .inl ⟨_,_,_,_,rfl,k⟩
   · obtain⟨x,g,e,k⟩:=sZ ab
     rw[e];exact .inr ⟨_,_,_,_,rfl,k⟩
 · obtain⟨x,g,e,k⟩:=sZ ab
   rw[e];exact .inl ⟨_,_,_,_,rfl,k⟩
theorem s0{eB:Option oV}{o:Oper}{g:Operand->aF}{d:List b1}{q:bJ}{h:J}{K:oW}{dR:oX}(ab:(pU P inR call eB o g d q h K dR).p):hB (dV P inR call none o (λx=>(g x).den) d q h) K dR:=by
 unfold pU at ab
 split at ab
 · split at ab
   · rename_i v al he
     split at ab
     · exact hB.val (s:=.o v) he ab
     · exact hB.val (s:=.v v) he ab
   · rename_i v al he
     exact .inr ⟨v,d,q,al,by simp only[dV,ey,he],ab⟩
   · rename_i f args al he
     have:=Jd ab
     simpa only[dV,ey,he] using this
   · rename_i l args al he
     have:=Jd ab
     simpa only[dV,ey,he] using this
   · rename_i x he
     split at ab
     · cases ab
     · exact .inl ⟨.v (.aW []),_,_,_,by simp only[dV,ey,he];rfl,ab⟩
   · rename_i he
     split at ab
     · cases ab
     · split at ab
       · exact .inl ⟨.v .eO,_,_,_,by simp only[dV,ey,he];rfl,ab⟩
       · exact .inl ⟨.v .eO,_,_,_,by simp only[dV,ey,he];rfl,ab⟩
       · rename_i v
         exact .inl ⟨.v v,_,_,_,by simp only[dV,ey,he];rfl,ab⟩
   · cases ab
 · obtain⟨x,c,k⟩:=sZ ab
   exact hB.val (sH c) k
 · obtain⟨x,al,c,k⟩:=sZ ab
   exact hB.val (De c) k
theorem Q3{op:BinOp}{x y s:aF}(ab:Dz op x y=some s)(h:J)(t:TypeId)(a b:Operand):c7 P h op t a b x.den y.den=some s.den:=by
 unfold Dz at ab
 split at ab
 · rename_i k dr dA b'
   split at ab
   · rename_i aw
     obtain rfl:k=dA:=of_decide_eq_true aw
     split at ab<;>first|(cases ab;done)|(cases ab;simp only[aF.den,c7,arith,if_true,aF.kf])
   · cases ab
 · cases ab
theorem Q4{op:BinOp}{x y s:aF}{t:TypeId}(ab:DC P op t x y=some s)(h:J)(a b:Operand):c7 P h op t a b x.den y.den=some s.den:=by
 unfold DC at ab
 split at ab
 · rename_i af hu
   rw[Bool.and_eq_true] at af
   cases ab
   rw[aF.oY af.1,aF.oY af.2]
   simp only[c7,qn,if_true,hK,hu,aF.den,ei]
 · rename_i af hu
   rw[Bool.and_eq_true] at af
   cases ab
   rw[aF.oY af.1,aF.oY af.2]
   simp only[c7,qn,if_true,hK,hu,aF.den,aF.kf,ei]
 · cases ab
theorem Q5{op:BinOp}{x y:aF}{p:Prop}{v:I}(ab:DA op x y=some (p,v))(bl:p)(h:J)(t:TypeId)(a b:Operand):c7 P h op t a b x.den y.den=some v:=by
 unfold DA at ab
 split at ab
 · rename_i k dr dA b'
   split at ab
   · rename_i aw;cases ab;obtain rfl:=of_decide_eq_true aw
     simp only[aF.den,c7,if_true];exact q4 bl
   · rename_i aw;cases ab;obtain rfl:=of_decide_eq_true aw
     simp only[aF.den,c7,if_true];exact pP bl.1 bl.2
   · rename_i aw;cases ab;obtain rfl:=of_decide_eq_true aw
     simp only[aF.den,c7,if_true];exact w7 bl
   · rename_i aw;cases ab;obtain rfl:=of_decide_eq_true aw
     simp only[aF.den,c7,if_true];exact IQ bl
   · rename_i aw;cases ab;obtain rfl:=of_decide_eq_true aw
     simp only[aF.den,c7,if_true];exact z0 bl.1 bl.2
   · cases ab
 · split at ab
   · cases ab
     simp only[aF.den,c7];exact fo bl
   · cases ab
 · cases ab
theorem Q6{eB:Option oV}{o:Oper}{g:Operand->aF}{d:List b1}{q:bJ}{h:J}{K:oW}{dR:oX}(ab:(DD P inR call eB o g d q h K dR).p):hB (dV P inR call none o (λx=>(g x).den) d q h) K dR:=by
 unfold DD at ab
 split at ab
 · rename_i x bd
   exact hB.val (s:=g x) (by simp only[cM,bd]) (aF.lN ab)
 · rename_i x bd
   exact hB.val (s:=g x) (by simp only[cM,bd]) (aF.lN ab)
 · rename_i t x bd
   split at ab
   · rename_i af
     exact hB.val (s:=.cm (g x)) (by simp only[cM,bd,aF.oY af];rfl) (aF.lN ab)
   · cases ab
 · rename_i op t x y yt bd
   replace ab:=aF.lN (aF.lN ab)
   have key:∀{s:aF},c7 P h op t x y (g x).den (g y).den=some s.den->(K s d q h).p->hB (dV P inR call none o (λx=>(g x).den) d q h) K dR:=λ{s} e k=>hB.val (s:=s) (by simp only[cM,bd,e,fC]) k
   split at ab
   · rename_i s hs
     split at hs
     · rename_i bM dx;cases hs;exact key (Q3 dx h t x y) ab
     · exact key (Q4 hs h x y) ab
   · split at ab
     · split at ab
       · rename_i v aE;exact key (s:=k4 v) (by rw[xa];exact aE) (aF.lN ab)
       · cases ab
     · split at ab
       · rename_i p v bl
         cases eB with
         |none=>exact key (s:=.v v) (Q5 bl ab.1 h t x y) ab.2
         |some _=>cases bl
       · exact s0 ab
 · rename_i x i bd
   split at ab
   · rename_i l au
     split at ab
     · rename_i s hs
       exact hB.val (s:=s) (by simp only[cM,bd,au,aF.den,I5 _ _ _ hs,fC]) (aF.lN ab)
     · cases ab
   · exact s0 ab
 · rename_i t x i bd
   split at ab
   · rename_i m e b off n hu ed ae
     split at ab
     · rename_i sz a4
       exact hB.val (s:=.v (.ptr b (off+n*sz))) (by simp only[cM,bd,hu,ed,aF.den,ae,a4,if_pos ab.1]) ab.2
     · cases ab
   · rename_i e b off m c n hu ed ae
     split at ab
     · rename_i sz a4
       exact hB.val (s:=.v (.ptr b (off+n*sz))) (by simp only[cM,bd,hu,ed,aF.den,ae,a4,if_pos ab.1]) ab.2
     · cases ab
   · cases ab
 · rename_i t a x bd
   split at ab
   · rename_i b off n xd a4
     split at ab
     · rename_i au
       obtain⟨aA,aC,gv,bN,k⟩:=DG (aF.lN ab)
       have ah:ur P o (λy=>(g y).den) h (.aW []) gv:=by
        unfold ur
        rw[bd]
        simp only[xd]
        rw[aA]
        exact⟨by rw[a4,Nat.eq_of_beq_eq_true au],bN,trivial⟩
       exact hB.val (s:=.v (.aW [])) (De ah) k
     · cases ab
   · cases ab
 · rename_i t parts bd
   split at ab
   · exact s0 ab
   · split at ab
     · rename_i z cu a4 hu
       split at ab
       · rename_i cs aa ad ax
         obtain⟨dD,k⟩:=xc _ ax ab
         have hf:=DH _ _ _ ad dD
         rw[show aF.b3 (z.cells.map k4)=z.cells by rw[k5,List.map_map,show aF.den∘k4=id from funext xa,List.map_id],List.map_map] at hf
         exact hB.val (s:=.eD cs) (by simp only[cM,bd,a4,hu,aa];exact by rw[show(parts.toList.map λp=>(p.1,(g p.2).den))=parts.toList.map ((λp=>(p.1,aF.den p.2))∘ λp=>(p.1,g p.2)) from rfl,hf];rfl) (sY k)
       · cases ab
     · cases ab
 · rename_i t len parts bd
   split at ab
   · exact s0 ab
   · obtain⟨e,sz,z,cs,hu,hs,a4,aa,hf,ah,k⟩:=Jb ab
     rw[Jc] at hf
     exact hB.val (s:=.v (.slice h.n 0 len (.exact len))) (by simp only[cM,bd,hu,hs,a4,aa,hf,newRow,ah];rfl) k
 · rename_i e x bd
   obtain⟨aA,aC,k⟩:=DG (aF.lN ab)
   exact hB.val (s:=.v (.ptr h.n 0)) (by simp only[cM,bd,newRow,aA,aC];rfl) k
 · rename_i c bd
   split at ab
   · rename_i iE
     split at ab
     · rename_i a t a2 a6
       obtain⟨n,e,k⟩:=ab
       have hg:c.args.toList.map (λy=>(g y).den)=[a]:=by
        have:(c.args.toList.map g).map aF.den=[a]:=by rw[a2];rfl
        rw[List.map_map] at this;exact this
       have ah:nO P o (λy=>(g y).den) h (.int .i64 (.ofNat n)):=by
        unfold nO
        rw[bd]
        simp only[iE,hg,a6]
        exact e
       exact hB.val (s:=.v (.int .i64 (.ofNat n))) (sH ah) k
     · exact s0 ab
   · exact s0 ab
 · exact s0 ab
end
end aD
namespace aD
open Go
def keyOf(hQ i:Nat)(o:Oper):Nat:=match o.dst with
 |some t=>t
 |none=>3000+50*hQ+i
section
variable (P:Program) (need:Nat)
def kE(m:Nat)(env:List aF)(Γ:dh)(loc:List (Nat×Acc))(x:Operand):aF:=match lL m env Γ (cT P need loc x) with
 |some s=>s
 |none=>.v .bad
def Aa(m:Nat)(env:List aF)(Γ:dh)(loc:List (Nat×Acc))(o:Oper):Bool:=o.op.operands.toList.all λx=>(lL m env Γ (cT P need loc x)).isSome
def Ab(eB:Option Bool)(gd:Option (Acc×Bool))(m:Nat)(env:List aF)(Γ:dh)(uG uH:List aF->dh->cQ):cQ:=match gd with
 |none=>uG env Γ
 |some (a,b)=>match lL m env Γ a with
  |none=>bad "guard"
  |some s=>match s with
   |.v (.aW [])=>uH env Γ
   |s=>s.cA eB (q5 (uB m a .jt env) λenv=>nf (sR a .jt Γ) λΓ=>(match b with|true=>uG env Γ|false=>uH env Γ)) (q5 (uB m a .ju env) λenv=>nf (sR a .ju Γ) λΓ=>(match b with|true=>uH env Γ|false=>uG env Γ))
variable (inR:Bool) (call:ay->List I->J->an)
def xe(pl:kg)(key m:Nat)(env:List aF)(Γ:dh)(loc:List (Nat×Acc))(o:Oper)(d:List b1)(q:bJ)(h:J)(K:List aF->dh->oW)(dR:dh->oX):cQ:=match o.op with
 |.pick c a b=>match lL m env Γ (cT P need loc c) with
  |none=>bad "pick"
  |some s=>s.cA (z7 (sS (2000+key) pl)) (q5 (uB m (cT P need loc c) .jt env) λfb=>nf (sR (cT P need loc c) .jt Γ) λb8=>(kE P need m env Γ loc a).lM λx=>K fb b8 x d q h) (q5 (uB m (cT P need loc c) .ju env) λfb=>nf (sR (cT P need loc c) .ju Γ) λb8=>(kE P need m env Γ loc b).lM λx=>K fb b8 x d q h)
 |_=>DD P inR call (sS key pl) o (kE P need m env Γ loc) d q h (K env Γ) (dR Γ)
def xf(pl:kg)(hQ:Nat):List Step->List aF->dh->List b1->bJ->J->(List aF->dh->List b1->bJ->J->cQ)->(I->dh->List b1->bJ->J->cQ)->cQ
 |[],env,Γ,d,q,h,K,_=>K env Γ d q h
 |s::rest,env,Γ,d,q,h,K,dR=>match Aa P need s.m env Γ s.loc s.o with
  |false=>bad ("an operand " ++s.o.pos)
  |true=>Ab (z7 (sS (1000+keyOf hQ s.m s.o) pl)) s.guard s.m env Γ
   (λenv Γ=>xe P need inR call pl (keyOf hQ s.m s.o) s.m env Γ s.loc s.o d q h (λenv Γ v d q h=>xf pl hQ rest (v::env) Γ d q h K dR) (λΓ v d q h=>dR v Γ d q h))
   (λenv Γ=>xf pl hQ rest (.v (.aW [])::env) Γ d q h K dR)
def s3(t:Nat):dh->dh
 |[]=>[]
 |(u,s)::l=>match Nat.beq t u with
  |true=>s3 t l
  |false=>(u,s)::s3 t l
def s4(m:Nat)(env:List aF)(fl:dh):List (Nat×Acc)->dh->dh
 |[],Γ=>Γ
 |(t,a)::l,Γ=>match Nat.testBit need t with
  |true=>match lL m env fl a with
   |some s=>(t,s)::s3 t (s4 m env fl l Γ)
   |none=>s3 t (s4 m env fl l Γ)
  |false=>s4 m env fl l Γ
def xg:List (Nat×Acc)->dh->dh
 |[],Γ=>Γ
 |(t,_)::l,Γ=>s3 t (xg l Γ)
abbrev mv:=List (Nat×Nat×J×Nat)
def hR:mv->m_
 |[]=>[]
 |(e,m,h,_)::l=>(e,m,h)::hR l
def Ac(o:Oper)(g:Operand->aF):Bool:=match o.op with
 |.move _|.assign _|.pick .. |.build .. |.nilCheck _|.makeInterface .. |.makeFunc .. |.fieldAddr .. |.field .. |.indexAddr .. |.index .. |.extract .. |.typeAssert .. =>true
 |.unOp .. =>true
 |.binOp _ _ x y _=>match g x,g y with
  |.v (.int _ _),.v (.int _ _)=>true
  |.v (.str _),.v (.str _)=>true
  |x,y=>x.sN&&y.sN
 |.call c=>match c.callee with
  |.builtin .len=>match c.argTypes[0]? with
   |some t=>match P.underlying t with
    |some (.slice _)=>true
    |some .string=>true
    |_=>false
   |none=>false
  |_=>false
 |_=>false
def uI:List aF->cQ->cQ
 |[],K=>K
 |.o a::l,K=>fW (a.sound=true) (uI l K)
 |s::l,K=>match s.den.sound with
  |true=>uI l K
  |false=>bad "sound"
def DI:aF->cQ->cQ
 |.o a,K=>fW (a.sound=true) K
 |.jt,K|.ju,K|.lt _ _,K|.le _ _,K|.eq _ _,K|.cm _,K=>K
 |.v a,K=>match a.sound with
  |true=>K
  |false=>bad "sound"
 |.eD l,K=>uI l K
 |.jS l,K=>match iU (aF.b3 l) with
  |true=>K
  |false=>bad "sound"
def uJ(s:DStep)(gK:Nat):Option Nat->J->Nat->mv->List (Option J)
 |dX,h,cv,a9=>
  (match pN s dX (hR a9) with
   |true=>[]
   |false=>[match Nat.beq cv gK with|true=>none|false=>some h])++
  (match a9 with
   |[]=>[]
   |(e,_,al,kF)::rest=>uJ s gK (some e) al kF rest)
def uK(o:Oper)(g:Operand->I)(v:I)(q7:Bool):List (Option J)->cQ->cQ
 |[],K=>K
 |none::l,K=>uK o g v q7 l K
 |some h::l,K=>match q7 with
  |true=>uK o g v q7 l K
  |false=>fW (nO P o g h v) (uK o g v q7 l K)
def k6(ops:Array Oper)(n:Nat)(env:List aF)(dL:List Nat)(Γ:dh)(last:Option Nat)(h:J)(cv:Nat)(a9:mv):List DStep->cQ->cQ
 |[],K=>K
 |s::rest,K=>match Nat.blt s.i n,kindOf P s.o.op with
  |true,.pure=>match sP (n-1-s.i) env,nth (n-1-s.i) dL with
   |some v,some gK=>match uJ s gK last h cv a9 with
    |[]=>k6 ops n env dL Γ last h cv a9 rest K
    |l=>match v with
     |.v (.aW [])=>match jI P need ops s.loc s.o with
      |some (a,b)=>match lL n env Γ a with
       |some (.v (.aW []))=>k6 ops n env dL Γ last h cv a9 rest K
       |some .jt=>match b with
        |false=>k6 ops n env dL Γ last h cv a9 rest K
        |true=>bad "look"
       |some .ju=>match b with
        |true=>k6 ops n env dL Γ last h cv a9 rest K
        |false=>bad "look"
       |_=>bad "look"
      |none=>bad "look"
     |v=>DI v (uK P s.o (λx=>(kE P need n env Γ s.loc x).den) v.den (Ac P s.o (kE P need n env Γ s.loc)) l (k6 ops n env dL Γ last h cv a9 rest K))
   |_,_=>bad "look"
  |_,_=>k6 ops n env dL Γ last h cv a9 rest K
def DJ(op:Op)(g:Operand->aF)(b:Nat)(K:aF->cx->cQ):cQ:=match op with
 |.box e x=>(g x).lM λs=>uC s (K (.v (.ptr b 0)) (.cells (sU s) e .own 0 0))
 |.makeSlice t l c=>match fB (g l).den with
  |some oH=>eb λz:cx=>fW (Ip P t (g l).den (g c).den b=some (.slice b 0 oH (match fB (g c).den with|some c'=>.exact c'|none=>.dead),z)) (K (.v (.slice b 0 oH (match fB (g c).den with|some c'=>.exact c'|none=>.dead))) z)
  |none=>bad "makeSlice"
 |.buildSlice t len parts=>match(ng (parts.toList.map λp=>(p.1,g p.2))).any aF.DB with
  |true=>z8 P t len (parts.toList.map λp=>(p.1,g p.2)) λe cs=>K (.v (.slice b 0 len (.exact len))) (.cells (aF.b3 cs) e .own 0 0)
  |false=>match jL P (.buildSlice t len parts) (λx=>(g x).den) b with
   |some (v,o)=>K (.v v) o
   |none=>bad "alloc"
 |op=>match jL P op (λx=>(g x).den) b with
  |some (v,o)=>K (.v v) o
  |none=>bad "alloc"
abbrev q8:=List aF->List Nat->dh->List b1->bJ->J->Nat->mv->cQ
def q9(pl:kg)(hQ:Nat)(ops:Array Oper)(cP:Nat):List DStep->List aF->List Nat->dh->List b1->bJ->J->Nat->mv->q8->(I->q8)->cQ
 |[],env,dL,Γ,d,q,h,cv,a9,K,_=>K env dL Γ d q h cv a9
 |s::rest,env,dL,Γ,d,q,h,cv,a9,K,dR=>match Aa P need s.i env Γ s.loc s.o with
  |false=>bad ("an operand " ++s.o.pos)
  |true=>Ab (z7 (sS (1000+keyOf hQ s.i s.o) pl)) (jI P need ops s.loc s.o) s.i env Γ
   (λenv Γ=>match kindOf P s.o.op with
    |.alloc=>DJ P s.o.op (kE P need s.i env Γ s.loc) (cP+s.i) λv o=>q9 pl hQ ops cP rest (v::env) (cv::dL) Γ d q (h.set (cP+s.i) (some o)) (cv+1) a9 K dR
    |.pure=>xe P need inR call pl (keyOf hQ s.i s.o) s.i env Γ s.loc s.o d q h (λenv Γ v _ _ _=>q9 pl hQ ops cP rest (v::env) (cv::dL) Γ d q h cv a9 K dR) (λ_ _ _ _ _=>bad "a panic")
    |.eg=>match sE s (hR a9) with
     |false=>bad "order"
     |true=>xe P need inR call pl (keyOf hQ s.i s.o) s.i env Γ s.loc s.o d q h (λenv Γ v bG bP al=>q9 pl hQ ops cP rest (v::env) (cv::dL) Γ bG bP al (cv+1) ((s.i,s.eU,h,cv)::a9) K dR)
      (λΓ v bG bP al=>match rest.all (λbM=>Nat.testBit bM.eU s.i) with
       |true=>dR v env dL Γ bG bP al (cv+1) ((s.i,s.eU,h,cv)::a9)
       |false=>bad "panic"))
   (λenv Γ=>match kindOf P s.o.op with
    |.eg=>match sE s (hR a9) with
     |false=>bad "order"
     |true=>q9 pl hQ ops cP rest (.v (.aW [])::env) (cv::dL) Γ d q h cv ((s.i,s.eU,h,cv)::a9) K dR
    |_=>q9 pl hQ ops cP rest (.v (.aW [])::env) (cv::dL) Γ d q h cv a9 K dR)
end
end aD
namespace aD
open Go
section
variable {P:Program} {need:Nat} {inR:Bool} {call:ay->List I->J->an}
theorem DK{m:Nat}{env:List aF}{Γ:dh}{loc:List (Nat×Acc)}{x:Operand}:(kE P need m env Γ loc x).den=(gV m (aF.b3 env) (c0 Γ) (cT P need loc x)).getD .bad:=by
 rw[<-uD]
 unfold kE
 split<;>rename_i h<;>rw[h]<;>rfl
theorem Je{m:Nat}{env:List aF}{Γ:dh}{loc:List (Nat×Acc)}{o:Oper}(h:Aa P need m env Γ loc o=true):∀x∈o.op.operands,(gV m (aF.b3 env) (c0 Γ) (cT P need loc x)).isSome=true:=by
 intro x ab
 unfold Aa at h
 rw[List.all_eq_true] at h
 have:=h x (by simpa using ab)
 rw[<-uD,Option.isSome_map];exact this
theorem DL{r:aT}{G:Env}(hm:Mod r G){m:Nat}{l:List I}{loc:List (Nat×Acc)}{o:Oper}(h:∀x∈o.op.operands,(gV m l G (cT P need loc x)).isSome=true):∀x∈o.op.operands,dU m l r (cT P need loc x)=(gV m l G (cT P need loc x)).getD .bad:=by
 intro x ab
 obtain⟨v,aE⟩:=Option.isSome_iff_exists.1 (h x ab)
 rw[uE hm aE,aE];rfl
def nS(m:Nat)(l:List I)(G:Env)(gd:Option (Acc×Bool))(W:Bool):Prop:=match gd with
 |none=>W=true
 |some (a,b)=>∃xh,gV m l G a=some xh/\ey (some (xh,b))=some W
theorem nS.ok{m:Nat}{l:List I}{G:Env}{gd:Option (Acc×Bool)}{W:Bool}(h:nS m l G gd W){r:aT}(hm:Mod r G):ey (gd.map λx=>(dU m l r x.1,x.2))=some W:=by
 cases gd with
 |none=>cases h;rfl
 |some x=>
  obtain⟨xh,aa,ad⟩:=h
  simp only[Option.map_some,uE hm aa,ad]
theorem nS.more{m:Nat}{l:List I}{G:Env}{gd:Option (Acc×Bool)}{W:Bool}(h:nS m l G gd W)(x:I):nS (m+1) (x::l) G gd W:=by
 cases gd with
 |none=>exact h
 |some y=>
  obtain⟨xh,aa,ad⟩:=h
  exact⟨xh,xb x aa,ad⟩
theorem Jf{eB:Option Bool}{gd:Option (Acc×Bool)}{m:Nat}{env:List aF}{Γ:dh}{uG uH:List aF->dh->cQ}(h:(Ab eB gd m env Γ uG uH).p):
  ∃fb b8,aF.b3 fb=aF.b3 env/\c0 b8=c0 Γ/\fb.length=env.length/\(((uG fb b8).p/\nS m (aF.b3 env) (c0 Γ) gd true)\/((uH fb b8).p/\nS m (aF.b3 env) (c0 Γ) gd false)):=by
 unfold Ab at h
 split at h
 · exact⟨env,Γ,rfl,rfl,rfl,.inl ⟨h,rfl⟩⟩
 · rename_i a b
   split at h
   · cases h
   · rename_i s hs
     have iT:gV m (aF.b3 env) (c0 Γ) a=some s.den:=by rw[<-uD,hs];rfl
     split at h
     · exact⟨env,Γ,rfl,rfl,rfl,.inr ⟨h,_,iT,rfl⟩⟩
     · obtain⟨af,ab⟩:=z_ _ h
       have aG:=aF.oY af
       rcases ab with⟨a6,aw⟩|⟨a6,aw⟩
       · rw[a6] at aG
         obtain⟨aA,aC,bN⟩:=uF (x:=.jt) hs aG
         refine⟨_,_,aA,aC,bN,?_⟩
         have aw:=nR (sY aw)
         cases b with
         |true=>exact .inl ⟨aw,_,iT,by rw[aG];rfl⟩
         |false=>exact .inr ⟨aw,_,iT,by rw[aG];rfl⟩
       · rw[a6] at aG
         obtain⟨aA,aC,bN⟩:=uF (x:=.ju) hs aG
         refine⟨_,_,aA,aC,bN,?_⟩
         have aw:=nR (sY aw)
         cases b with
         |true=>exact .inr ⟨aw,_,iT,by rw[aG];rfl⟩
         |false=>exact .inl ⟨aw,_,iT,by rw[aG];rfl⟩
theorem DM{pl:kg}{key m:Nat}{env:List aF}{Γ:dh}{loc:List (Nat×Acc)}{o:Oper}{d:List b1}{q:bJ}{h:J}{K:List aF->dh->oW}{dR:dh->oX}(ab:(xe P need inR call pl key m env Γ loc o d q h K dR).p):
  ∃fb b8,aF.b3 fb=aF.b3 env/\c0 b8=c0 Γ/\fb.length=env.length/\hB (dV P inR call none o (λx=>(gV m (aF.b3 env) (c0 Γ) (cT P need loc x)).getD .bad) d q h) (K fb b8) (dR b8):=by
 have aj:(λx=>(gV m (aF.b3 env) (c0 Γ) (cT P need loc x)).getD .bad)=λx=>(kE P need m env Γ loc x).den:=funext λx=>DK.symm
 unfold xe at ab
 split at ab
 · rename_i c a b bd
   split at ab
   · cases ab
   · rename_i s hs
     obtain⟨af,bg⟩:=z_ _ ab
     have aG:=aF.oY af
     have zQ:(kE P need m env Γ loc c).den=s.den:=by unfold kE;rw[hs]
     rw[aj]
     rcases bg with⟨a6,aw⟩|⟨a6,aw⟩
     · rw[a6] at aG
       obtain⟨aA,aC,bN⟩:=uF (x:=.jt) hs aG
       exact⟨_,_,aA,aC,bN,hB.val (s:=kE P need m env Γ loc a) (by simp only[cM,bd,zQ,aG]) (aF.lN (nR (sY aw)))⟩
     · rw[a6] at aG
       obtain⟨aA,aC,bN⟩:=uF (x:=.ju) hs aG
       exact⟨_,_,aA,aC,bN,hB.val (s:=kE P need m env Γ loc b) (by simp only[cM,bd,zQ,aG]) (aF.lN (nR (sY aw)))⟩
 · rw[aj]
   exact⟨env,Γ,rfl,rfl,rfl,Q6 ab⟩
theorem DN{r:aT}{s:Step}{rest:List Step}{env:List I}{d:List b1}{q:bJ}{h:J}:jJ P need inR call r (s::rest) env d q h=match dV P inR call (s.guard.map λx=>(dU s.m env r x.1,x.2)) s.o (λx=>dU s.m env r (cT P need s.loc x)) d q h with
  |.ok v bG bP al=>jJ P need inR call r rest (v::env) bG bP al
  |.b9 v bG bP al=>.b9 v bG bP al
  |.fail w=>.fail w:=by
 obtain⟨gd,o,loc,m⟩:=s
 cases gd<;>rfl
theorem DO{pl:kg}{hQ:Nat}:∀(l:List Step) (env:List aF) (Γ:dh) (d:List b1) (q:bJ) (h:J) {K:List aF->dh->List b1->bJ->J->cQ} {dR:I->dh->List b1->bJ->J->cQ},(xf P need inR call pl hQ l env Γ d q h K dR).p->
  (∃fb b8 bG bP al,(∀r,Mod r (c0 Γ)->jJ P need inR call r l (aF.b3 env) d q h=.ok (aF.b3 fb) bG bP al)/\c0 b8=c0 Γ/\(K fb b8 bG bP al).p)\/∃v b8 bG bP al,(∀r,Mod r (c0 Γ)->jJ P need inR call r l (aF.b3 env) d q h=.b9 v bG bP al)/\c0 b8=c0 Γ/\(dR v b8 bG bP al).p
 |[],env,Γ,d,q,h,K,dR,ab=>.inl ⟨env,Γ,d,q,h,λ_ _=>rfl,rfl,ab⟩
 |s::rest,env,Γ,d,q,h,K,dR,ab=>by
  simp only[xf] at ab
  split at ab
  · cases ab
  · rename_i aw
    have g5:∀r,Mod r (c0 Γ)->∀gd,dV P inR call gd s.o (λx=>dU s.m (aF.b3 env) r (cT P need s.loc x)) d q h=dV P inR call gd s.o (λx=>(gV s.m (aF.b3 env) (c0 Γ) (cT P need s.loc x)).getD .bad) d q h:=λr hm gd=>sr (DL hm (Je aw))
    obtain⟨nh,gC,aA,aC,bN,hw⟩:=Jf ab
    rcases hw with⟨hw,oZ⟩|⟨hw,oZ⟩
    · obtain⟨nT,Γ2,f1,f2,f3,bd⟩:=DM hw
      rw[aA,aC] at bd
      rcases bd with⟨x,d1,aV,aa,he,dq⟩|⟨v,d1,aV,aa,he,dq⟩
      · have ba:=DO rest (x::nT) Γ2 d1 aV aa dq
        have key:∀r,Mod r (c0 Γ)->jJ P need inR call r (s::rest) (aF.b3 env) d q h=jJ P need inR call r rest (aF.b3 (x::nT)) d1 aV aa:=λr hm=>by
         rw[DN,g5 r hm,ux (oZ.ok hm),he]
         simp only[aF.b3,f1,aA]
        rw[f2,aC] at ba
        rcases ba with⟨fb,b8,bG,bP,al,i1,i2,i3⟩|⟨v,b8,bG,bP,al,i1,i2,i3⟩
        · exact .inl ⟨fb,b8,bG,bP,al,λr hm=>(key r hm).trans (i1 r hm),i2,i3⟩
        · exact .inr ⟨v,b8,bG,bP,al,λr hm=>(key r hm).trans (i1 r hm),i2,i3⟩
      · refine .inr ⟨v,Γ2,d1,aV,aa,λr hm=>?_,f2.trans aC,dq⟩
        rw[DN,g5 r hm,ux (oZ.ok hm),he]
    · have ba:=DO rest (.v (.aW [])::nh) gC d q h hw
      have key:∀r,Mod r (c0 Γ)->jJ P need inR call r (s::rest) (aF.b3 env) d q h=jJ P need inR call r rest (aF.b3 (.v (.aW [])::nh)) d q h:=λr hm=>by
       rw[DN,wY (oZ.ok hm)]
       simp only[aF.b3,aF.den,aA]
      rw[aC] at ba
      rcases ba with⟨fb,b8,bG,bP,al,i1,i2,i3⟩|⟨v,b8,bG,bP,al,i1,i2,i3⟩
      · exact .inl ⟨fb,b8,bG,bP,al,λr hm=>(key r hm).trans (i1 r hm),i2,i3⟩
      · exact .inr ⟨v,b8,bG,bP,al,λr hm=>(key r hm).trans (i1 r hm),i2,i3⟩
theorem xi(t:Nat):∀Γ:dh,c0 (s3 t Γ)=del t (c0 Γ)
 |[]=>rfl
 |(u,s)::l=>by
  simp only[s3,c0,del]
  cases Nat.beq t u with
  |true=>exact xi t l
  |false=>simp only[c0];rw[xi t l]
theorem DP{m:Nat}{env:List aF}{hn:aT}{fl:dh}(hm:Mod hn (c0 fl)):∀(l:List (Nat×Acc)) (r:aT) (Γ:dh),Mod r (c0 Γ)->Mod (pq need m (aF.b3 env) hn l r) (c0 (s4 need m env fl l Γ))
 |[],r,Γ,h=>h
 |(t,a)::l,r,Γ,h=>by
  have ba:=DP (m:=m) (env:=env) hm l r Γ h
  simp only[pq,s4]
  cases Nat.testBit need t with
  |false=>exact ba
  |true=>
   cases aj:lL m env fl a with
   |some s=>
    have:gV m (aF.b3 env) (c0 fl) a=some s.den:=by rw[<-uD,aj];rfl
    simp only[c0,xi]
    rw[uE hm this];exact ba.put t s.den
   |none=>simp only[xi];exact ba.del t _
theorem DQ:∀(l:List (Nat×Acc)) (r:aT) (Γ:dh),Mod r (c0 Γ)->Mod (tO l r) (c0 (xg l Γ))
 |[],r,Γ,h=>h
 |(t,a)::l,r,Γ,h=>by simp only[xg,xi];exact(DQ l r Γ h).del t _
theorem Jg:∀(ops:List Oper) (n:Nat) (loc:List (Nat×Acc)) (gp:List Nat) (k:Nat) (s:DStep),(e1 ops n loc gp)[k]? =some s->s.i=n+k
 |[],n,loc,gp,k,s,h=>by simp[e1] at h
 |o::l,n,loc,gp,0,s,h=>by simp only[e1,List.getElem?_cons_zero,Option.some.injEq] at h;rw[<-h];rfl
 |o::l,n,loc,gp,k+1,s,h=>by
  simp only[e1,List.getElem?_cons_succ] at h
  have:=Jg l (n+1) _ _ k s h
  omega
def uL(P:Program)(need:Nat)(ops:Array Oper)(s:DStep)(n:Nat)(l:List I)(G:Env)(dL:List Nat)(H:Nat->J):Prop:=s.i<n/\(kindOf P s.o.op=.pure->(∀x∈s.o.op.operands,(gV n l G (cT P need s.loc x)).isSome=true)/\∀v gK,nth (n-1-s.i) l=some v->nth (n-1-s.i) dL=some gK->nS n l G (jI P need ops s.loc s.o) false\/(nS n l G (jI P need ops s.loc s.o) true/\∃al,cM P s.o (λx=>(gV n l G (cT P need s.loc x)).getD .bad) (H gK)=.val v al))
theorem Q7{α:Type}{n i:Nat}(h:i<n)(x:α)(l:List α):nth (n+1-1-i) (x::l)=nth (n-1-i) l:=by
 have:n+1-1-i=(n-1-i)+1:=by omega
 rw[this];rfl
theorem Jh{α:Type}:∀(n:Nat) (l:List α) (x:α),nth n l=some x->x∈l
 |0,[],_,h=>by cases h
 |_+1,[],_,h=>by cases h
 |0,y::l,x,h=>by cases h;exact List.mem_cons_self
 |n+1,y::l,x,h=>List.mem_cons_of_mem _ (Jh n l x h)
theorem uL.more{ops:Array Oper}{s:DStep}{n:Nat}{l:List I}{G:Env}{dL:List Nat}{H aX:Nat->J}(h:uL P need ops s n l G dL H)(x:I)(y:Nat)(c_:∀gK∈dL,aX gK=H gK):uL P need ops s (n+1) (x::l) G (y::dL) aX:=by
 obtain⟨aa,ad⟩:=h
 refine⟨by omega,λaw=>?_⟩
 obtain⟨b4,b0⟩:=ad aw
 refine⟨λz a4=>?_,λv gK aE lO=>?_⟩
 · obtain⟨w,hw⟩:=Option.isSome_iff_exists.1 (b4 z a4)
   rw[xb x hw];rfl
 · rw[Q7 aa] at aE lO
   rcases b0 v gK aE lO with e|⟨ep,al,e⟩
   · exact .inl (e.more x)
   · have Q8:=Jh _ _ _ lO
     refine .inr ⟨ep.more x,al,?_⟩
     rw[c_ gK Q8,<-e]
     exact wK s.o _ λz a4=>by
      obtain⟨w,hw⟩:=Option.isSome_iff_exists.1 (b4 z a4)
      rw[xb x hw,hw]
end
end aD
namespace aD
open Go
section
variable {P:Program} {need:Nat} {inR:Bool} {call:ay->List I->J->an}
theorem Ad:∀l:List aF,(aF.b3 l).length=l.length
 |[]=>rfl
 |_::l=>by simp only[aF.b3,List.length_cons,Ad l]
structure mw(P:Program)(need:Nat)(ops:Array Oper)(pre:List DStep)(env:List aF)(dL:List Nat)(Γ:dh)(h:J)(cv:Nat)(a9:mv)(H:Nat->J):Prop where
 cur:H cv=h
 le:∀gK∈dL,gK<=cv
 st:∀z∈a9,z.2.2.2<=cv/\H z.2.2.2=z.2.2.1
 pl:pre.length=env.length
 seen:∀s∈pre,uL P need ops s env.length (aF.b3 env) (c0 Γ) dL H
theorem mw.push{ops:Array Oper}{pre:List DStep}{env fb:List aF}{dL:List Nat}{Γ b8:dh}{h al:J}{cv kF:Nat}{a9 q_:mv}{H aX:Nat->J}(w:mw P need ops pre env dL Γ h cv a9 H){s:DStep}{v:aF}(ae:s.i=env.length)(aA:aF.b3 fb=aF.b3 env)(aC:c0 b8=c0 Γ)(bN:fb.length=env.length)
  (c_:∀k,k<=cv->aX k=H k)(aE:cv<=kF)(ah:aX kF=al)(hs:∀z∈q_,z.2.2.2<=kF/\aX z.2.2.2=z.2.2.1)
  (bl:kindOf P s.o.op=.pure->(∀x∈s.o.op.operands,(gV s.i (aF.b3 env) (c0 Γ) (cT P need s.loc x)).isSome=true)/\(nS s.i (aF.b3 env) (c0 Γ) (jI P need ops s.loc s.o) false\/(nS s.i (aF.b3 env) (c0 Γ) (jI P need ops s.loc s.o) true/\∃iW,cM P s.o (λx=>(gV s.i (aF.b3 env) (c0 Γ) (cT P need s.loc x)).getD .bad) h=.val v.den iW))):
  mw P need ops (pre++[s]) (v::fb) (cv::dL) b8 al kF q_ aX:=by
 refine⟨ah,λgK lO=>?_,hs,by simp[w.pl,bN],λz a4=>?_⟩
 · rcases List.mem_cons.1 lO with rfl|lO
   · exact aE
   · exact Nat.le_trans (w.le gK lO) aE
 · rw[List.length_cons,bN,aC]
   simp only[aF.b3,aA]
   rcases List.mem_append.1 a4 with a4|a4
   · exact(w.seen z a4).more _ _ λgK lO=>c_ gK (w.le gK lO)
   · obtain rfl:z=s:=by simpa using a4
     refine⟨by omega,λaw=>?_⟩
     obtain⟨b4,b0⟩:=bl aw
     rw[ae] at b4 b0
     refine⟨λx ab=>?_,λu gK hu lO=>?_⟩
     · obtain⟨y,bg⟩:=Option.isSome_iff_exists.1 (b4 x ab)
       rw[xb _ bg];rfl
     · have h0:env.length+1-1-z.i=0:=by omega
       rw[h0] at hu lO
       cases hu;cases lO
       rcases b0 with b0|⟨h3,iW,b0⟩
       · exact .inl (b0.more _)
       · refine .inr ⟨h3.more _,iW,?_⟩
         rw[c_ cv (Nat.le_refl _),w.cur,<-b0]
         exact wK _ _ λx ab=>by
          obtain⟨y,bg⟩:=Option.isSome_iff_exists.1 (b4 x ab)
          rw[xb _ bg,bg]
theorem xj{ops:Array Oper}{r:aT}{n:Nat}{env:List I}{s:DStep}:gG P need ops r n env s=(jI P need ops s.loc s.o).map λx=>(dU n env r x.1,x.2):=by
 unfold gG
 cases jI P need ops s.loc s.o<;>rfl
def Ji:fs->Prop
 |.val _ _=>True
 |.b9 _ _=>True
 |.fail _=>True
 |_=>False
theorem Q9{o:Oper}{g:Operand->I}{H:J}(aw:kindOf P o.op=.pure):Ji (cM P o g H):=by
 have gI:∀(w:String) (x:Option I),Ji (fC H w x):=λw x=>by cases x<;>trivial
 obtain⟨dst,op,type,pos,after,guard⟩:=o
 cases op<;>simp only[kindOf] at aw<;>(try (cases aw;done))<;>unfold cM<;>simp only
 case binOp=>exact gI _ _
 case slice=>exact gI _ _
 case lookup=>exact gI _ _
 case convert s d x=>
  have dC:∀e,P.underlying d≠some (.slice e):=λe he=>by rw[he] at aw;cases aw
  unfold eR
  repeat' (first|trivial|exact absurd (by assumption) (dC _)|split)
 case call c=>
  cases ah:c.callee with
  |value f=>rw[ah] at aw;cases aw
  |invoke r n=>rw[ah] at aw;cases aw
  |builtin b=>
   rw[ah] at aw
   cases b<;>simp only at aw<;>(try (cases aw;done))<;>simp only[hZ]<;>repeat' (first|trivial|exact gI _ _|split)
 all_goals repeat' (first|trivial|exact gI _ _|split)
theorem Q_{o:Oper}{g:Operand->I}{d d1:List b1}{q aV:bJ}{h aa:J}{v:I}(aw:kindOf P o.op=.pure)(e:dV P inR call none o g d q h=.ok v d1 aV aa):∃al,cM P o g h=.val v al:=by
 have aE:=Q9 (P:=P) (g:=g) (H:=h) aw
 unfold dV at e
 simp only[ey] at e
 cases bd:cM P o g h<;>rw[bd] at e aE<;>first|(exact aE.elim)|(cases e;done)|(cases e;exact⟨_,rfl⟩)
theorem Ra{op:Op}{g:Operand->aF}{b:Nat}{K:aF->cx->cQ}(h:(DJ P op g b K).p):∃s o,jL P op (λx=>(g x).den) b=some (aF.den s,o)/\(K s o).p:=by
 unfold DJ at h
 split at h
 · rename_i e x
   obtain⟨aA,aC,k⟩:=DG (aF.lN h)
   exact⟨_,_,by simp only[jL,aA,aC];rfl,k⟩
 · rename_i t l c
   split at h
   · obtain⟨z,a4,k⟩:=h
     exact⟨_,_,Ir (op:=.makeSlice t l c) (v:=aF.den (.v _)) a4,k⟩
   · cases h
 · rename_i t len parts
   split at h
   · obtain⟨e,sz,z,cs,hu,hs,a4,aa,hf,ah,k⟩:=Jb h
     rw[Jc] at hf
     exact⟨.v _,_,by simp only[jL,hu,hs,a4,aa,hf,ah];rfl,k⟩
   · split at h
     · rename_i v o aE
       exact⟨.v v,o,aE,h⟩
     · cases h
 · split at h
   · rename_i v o aE
     exact⟨.v v,o,aE,h⟩
   · cases h
def pV(H:Nat->J)(k:Nat)(h:J)(j:Nat):J:=if j=k then h else H j
def o0(P:Program)(need:Nat)(inR:Bool)(call:ay->List I->J->an)(ops:Array Oper)(cP:Nat)(full l:List DStep)(env:List aF)(G:Env)(d:List b1)(q:bJ)(h:J)(a9:mv)(K:q8)(dR:I->q8):Prop:=
 (∃fb ra b8 bG bP al kF q_ aX,(∀r,Mod r G->ga P need inR call ops r cP l (aF.b3 env) d q h (hR a9)=.ok (aF.b3 fb) bG bP al (hR q_))/\c0 b8=G/\mw P need ops full fb ra b8 al kF q_ aX/\(K fb ra b8 bG bP al kF q_).p)\/
 ∃v fb ra b8 bG bP al kF e m h0 uM q0 aX xk,(∀r,Mod r G->ga P need inR call ops r cP l (aF.b3 env) d q h (hR a9)=.b9 v (aF.b3 fb) bG bP al (hR ((e,m,h0,uM)::q0)))/\c0 b8=G/\mw P need ops xk fb ra b8 h0 uM q0 aX/\(∃post,full=xk++post)/\(dR v fb ra b8 bG bP al kF ((e,m,h0,uM)::q0)).p
theorem o0.trans{ops:Array Oper}{cP:Nat}{full l bB:List DStep}{env nT:List aF}{G:Env}{d d2:List b1}{q aN:bJ}{h ad:J}{a9 Jj:mv}{K:q8}{dR:I->q8}(aw:∀r,Mod r G->ga P need inR call ops r cP l (aF.b3 env) d q h (hR a9)=ga P need inR call ops r cP bB (aF.b3 nT) d2 aN ad (hR Jj))(he:o0 P need inR call ops cP full bB nT G d2 aN ad Jj K dR):o0 P need inR call ops cP full l env G d q h a9 K dR:=by
 rcases he with⟨dD,ef,g2,kG,my,DR,DS,DT,DU,bh,bz,db,k7⟩|⟨dD,ef,g2,kG,my,DR,DS,DT,DU,a8,aI,cK,jv,s5,kH,bh,bz,db,k7,Rb⟩
 · exact .inl ⟨dD,ef,g2,kG,my,DR,DS,DT,DU,λr hm=>(aw r hm).trans (bh r hm),bz,db,k7⟩
 · exact .inr ⟨dD,ef,g2,kG,my,DR,DS,DT,DU,a8,aI,cK,jv,s5,kH,λr hm=>(aw r hm).trans (bh r hm),bz,db,k7,Rb⟩
theorem s6{ops:Array Oper}{r:aT}{cP:Nat}{s:DStep}{rest:List DStep}{env:List I}{d:List b1}{q:bJ}{h:J}{a9:m_}:ga P need inR call ops r cP (s::rest) env d q h a9=
  match kindOf P s.o.op with
  |.alloc=>match ey (gG P need ops r s.i env s) with
   |none=>.fail ("guard " ++s.o.pos)
   |some false=>ga P need inR call ops r cP rest (.aW []::env) d q h a9
   |some true=>match jL P s.o.op (λx=>dU s.i env r (cT P need s.loc x)) (cP+s.i) with
    |some (v,o)=>ga P need inR call ops r cP rest (v::env) d q (h.set (cP+s.i) (some o)) a9
    |none=>.fail ("alloc " ++s.o.pos)
  |.pure=>match dV P inR call (gG P need ops r s.i env s) s.o (λx=>dU s.i env r (cT P need s.loc x)) d q h with
   |.ok v _ _ _=>ga P need inR call ops r cP rest (v::env) d q h a9
   |.b9 _ _ _ _=>.fail ("pure " ++s.o.pos)
   |.fail w=>.fail w
  |.eg=>match sE s a9 with
   |false=>.fail ("order " ++s.o.pos)
   |true=>match dV P inR call (gG P need ops r s.i env s) s.o (λx=>dU s.i env r (cT P need s.loc x)) d q h with
    |.ok v bG bP al=>ga P need inR call ops r cP rest (v::env) bG bP al ((s.i,s.eU,h)::a9)
    |.b9 v bG bP al=>match rest.all (λbM=>Nat.testBit bM.eU s.i) with
     |true=>.b9 v env bG bP al ((s.i,s.eU,h)::a9)
     |false=>.fail ("panic " ++s.o.pos)
    |.fail w=>.fail w:=by
 cases a9<;>rfl
theorem s7{pl:kg}{hQ:Nat}{ops:Array Oper}{cP:Nat}{full:List DStep}(o1:∀(k:Nat) (s:DStep),full[k]? =some s->s.i=k){K:q8}{dR:I->q8}:∀(l pre:List DStep) (env:List aF) (dL:List Nat) (Γ:dh) (d:List b1) (q:bJ) (h:J) (cv:Nat) (a9:mv) (H:Nat->J),full=pre++l->mw P need ops pre env dL Γ h cv a9 H->(q9 P need inR call pl hQ ops cP l env dL Γ d q h cv a9 K dR).p->o0 P need inR call ops cP full l env (c0 Γ) d q h a9 K dR
 |[],pre,env,dL,Γ,d,q,h,cv,a9,H,hf,w,ab=>by
  rw[List.append_nil] at hf
  subst hf
  exact .inl ⟨env,dL,Γ,d,q,h,cv,a9,H,λ_ _=>rfl,rfl,w,ab⟩
 |s::rest,pre,env,dL,Γ,d,q,h,cv,a9,H,hf,w,ab=>by
  have ae:s.i=env.length:=by
   rw[<-w.pl]
   exact o1 pre.length s (by rw[hf];simp)
  have uN:full=(pre++[s])++rest:=by rw[hf];simp
  simp only[q9] at ab
  split at ab
  · cases ab
  · rename_i aw
    have s8:=Je aw
    have aj:∀r,Mod r (c0 Γ)->∀x∈s.o.op.operands,dU s.i (aF.b3 env) r (cT P need s.loc x)=(gV s.i (aF.b3 env) (c0 Γ) (cT P need s.loc x)).getD .bad:=λr hm=>DL hm s8
    have g5:∀r,Mod r (c0 Γ)->∀gd,dV P inR call gd s.o (λx=>dU s.i (aF.b3 env) r (cT P need s.loc x)) d q h=dV P inR call gd s.o (λx=>(gV s.i (aF.b3 env) (c0 Γ) (cT P need s.loc x)).getD .bad) d q h:=λr hm gd=>sr (aj r hm)
    obtain⟨nh,gC,aA,aC,bN,hw⟩:=Jf ab
    have kd:∀z∈a9,z.2.2.2<=cv/\H z.2.2.2=z.2.2.1:=w.st
    rcases hw with⟨hw,oZ⟩|⟨hw,oZ⟩
    · have rb:∀r,Mod r (c0 Γ)->ey (gG P need ops r s.i (aF.b3 env) s)=some true:=λr hm=>by rw[xj];exact oZ.ok hm
      split at hw
      · rename_i gU
        obtain⟨v,o,a2,dq⟩:=Ra hw
        have Rc:jL P s.o.op (λx=>(gV s.i (aF.b3 env) (c0 Γ) (cT P need s.loc x)).getD .bad) (cP+s.i)=some (v.den,o):=by
         rw[<-a2];congr 1;exact funext λx=>by rw[DK,aA,aC]
        have c9:mw P need ops (pre++[s]) (v::nh) (cv::dL) gC (h.set (cP+s.i) (some o)) (cv+1) a9 (pV H (cv+1) (h.set (cP+s.i) (some o))):=
         w.push ae aA aC bN (λk aw=>by unfold pV;rw[if_neg (by omega)]) (by omega) (by unfold pV;rw[if_pos rfl]) (λz a4=>by
          obtain⟨dP,fR⟩:=kd z a4
          exact⟨by omega,by unfold pV;rw[if_neg (by omega)];exact fR⟩) (λbl=>by rw[gU] at bl;cases bl)
        have ba:=s7 o1 rest (pre++[s]) (v::nh) (cv::dL) gC d q _ (cv+1) a9 _ uN c9 dq
        rw[aC] at ba
        refine o0.trans (λr hm=>?_) ba
        rw[s6,gU]
        simp only[rb r hm]
        rw[wL _ _ (aj r hm),Rc]
        simp only[aF.b3,aA]
      · rename_i gU
        obtain⟨nT,Γ2,f1,f2,f3,bd⟩:=DM hw
        rw[aA,aC] at bd
        rcases bd with⟨x,d1,aV,aa,he,dq⟩|⟨v,d1,aV,aa,he,dq⟩
        · have gr:=Q_ gU he
          have c9:mw P need ops (pre++[s]) (x::nT) (cv::dL) Γ2 h cv a9 H:=
           w.push ae (f1.trans aA) (f2.trans aC) (f3.trans bN) (λk aw=>rfl) (Nat.le_refl _) w.cur kd (λ_=>⟨s8,.inr ⟨oZ,gr⟩⟩)
          have ba:=s7 o1 rest (pre++[s]) (x::nT) (cv::dL) Γ2 d q h cv a9 H uN c9 dq
          rw[f2,aC] at ba
          refine o0.trans (λr hm=>?_) ba
          rw[s6,gU]
          simp only
          rw[g5 r hm,ux (rb r hm),he]
          simp only[aF.b3,f1,aA]
        · cases dq
      · rename_i gU
        split at hw
        · cases hw
        · rename_i k0
          obtain⟨nT,Γ2,f1,f2,f3,bd⟩:=DM hw
          rw[aA,aC] at bd
          rcases bd with⟨x,d1,aV,aa,he,dq⟩|⟨v,d1,aV,aa,he,dq⟩
          · have c9:mw P need ops (pre++[s]) (x::nT) (cv::dL) Γ2 aa (cv+1) ((s.i,s.eU,h,cv)::a9) (pV H (cv+1) aa):=
              w.push ae (f1.trans aA) (f2.trans aC) (f3.trans bN) (λk aw=>by unfold pV;rw[if_neg (by omega)]) (by omega) (by unfold pV;rw[if_pos rfl]) (λz a4=>by
               rcases List.mem_cons.1 a4 with rfl|a4
               · exact⟨by simp,by unfold pV;rw[if_neg (by simp)];exact w.cur⟩
               · obtain⟨dP,fR⟩:=kd z a4
                 exact⟨by omega,by unfold pV;rw[if_neg (by omega)];exact fR⟩) (λbl=>by rw[gU] at bl;cases bl)
            have ba:=s7 o1 rest (pre++[s]) (x::nT) (cv::dL) Γ2 d1 aV aa (cv+1) _ _ uN c9 dq
            rw[f2,aC] at ba
            refine o0.trans (λr hm=>?_) ba
            rw[s6,gU]
            simp only[k0]
            rw[g5 r hm,ux (rb r hm),he]
            simp only[aF.b3,f1,aA,hR]
          · split at dq
            · rename_i fQ
              refine .inr ⟨v,nh,dL,Γ2,d1,aV,aa,cv+1,s.i,s.eU,h,cv,a9,H,pre,λr hm=>?_,f2.trans aC,?_,⟨_,hf⟩,dq⟩
              · rw[s6,gU]
                simp only[k0]
                rw[g5 r hm,ux (rb r hm),he]
                simp only[fQ,hR,aA]
              · exact⟨w.cur,w.le,w.st,w.pl.trans bN.symm,by rw[f2,aC,aA,bN];exact w.seen⟩
            · cases dq
    · have rb:∀r,Mod r (c0 Γ)->ey (gG P need ops r s.i (aF.b3 env) s)=some false:=λr hm=>by rw[xj];exact oZ.ok hm
      cases gU:kindOf P s.o.op with
      |eg=>
       rw[gU] at hw
       simp only at hw
       split at hw
       · cases hw
       · rename_i k0
         have c9:mw P need ops (pre++[s]) (.v (.aW [])::nh) (cv::dL) gC h cv ((s.i,s.eU,h,cv)::a9) H:=
          w.push ae aA aC bN (λk aw=>rfl) (Nat.le_refl _) w.cur (λz a4=>by
           rcases List.mem_cons.1 a4 with rfl|a4
           · exact⟨Nat.le_refl _,w.cur⟩
           · exact kd z a4) (λbl=>by rw[gU] at bl;cases bl)
         have ba:=s7 o1 rest (pre++[s]) (.v (.aW [])::nh) (cv::dL) gC d q h cv _ H uN c9 hw
         rw[aC] at ba
         refine o0.trans (λr hm=>?_) ba
         rw[s6,gU]
         simp only[k0]
         rw[wY (rb r hm)]
         simp only[aF.b3,aF.den,aA,hR]
      |alloc=>
       rw[gU] at hw
       simp only at hw
       have c9:mw P need ops (pre++[s]) (.v (.aW [])::nh) (cv::dL) gC h cv a9 H:=
        w.push ae aA aC bN (λk aw=>rfl) (Nat.le_refl _) w.cur kd (λbl=>by rw[gU] at bl;cases bl)
       have ba:=s7 o1 rest (pre++[s]) (.v (.aW [])::nh) (cv::dL) gC d q h cv a9 H uN c9 hw
       rw[aC] at ba
       refine o0.trans (λr hm=>?_) ba
       rw[s6,gU]
       simp only[rb r hm]
       simp only[aF.b3,aF.den,aA]
      |pure=>
       rw[gU] at hw
       simp only at hw
       have c9:mw P need ops (pre++[s]) (.v (.aW [])::nh) (cv::dL) gC h cv a9 H:=
        w.push ae aA aC bN (λk aw=>rfl) (Nat.le_refl _) w.cur kd (λ_=>⟨s8,.inl oZ⟩)
       have ba:=s7 o1 rest (pre++[s]) (.v (.aW [])::nh) (cv::dL) gC d q h cv a9 H uN c9 hw
       rw[aC] at ba
       refine o0.trans (λr hm=>?_) ba
       rw[s6,gU]
       simp only
       rw[wY (rb r hm)]
       simp only[aF.b3,aF.den,aA]
end
end aD
namespace aD
open Go
section
variable {P:Program} {need:Nat} {inR:Bool} {call:ay->List I->J->an}
theorem Rd{o:Oper}{g:Operand->aF}(au:Ac P o g=true){h aa:J}{v:I}(e:cM P o (λx=>(g x).den) h=.val v aa)(al:J):∃ad,cM P o (λx=>(g x).den) al=.val v ad:=by
 have gI:∀{w:String} {x:Option I},fC h w x=.val v aa->∃ad,fC al w x=.val v ad:=λ{w x} e=>by
  cases x with
  |none=>cases e
  |some y=>cases e;exact⟨_,rfl⟩
 obtain⟨dst,op,type,pos,after,guard⟩:=o
 cases op<;>simp only[Ac] at au<;>(try (cases au;done))<;>unfold cM at e⊢ <;>simp only at e⊢
 case binOp op t x y yt=>
  split at au
  · rename_i k a dA b ab bg
    rw[ab,bg] at e⊢
    simp only[aF.den,c7] at e⊢
    exact gI e
  · rename_i a b ab bg
    rw[ab,bg] at e⊢
    simp only[aF.den,c7] at e⊢
    exact gI e
  · rw[Bool.and_eq_true] at au
    rw[aF.oY au.1,aF.oY au.2] at e⊢
    have ak:c7 P al op t x y (.bool (g x).kf) (.bool (g y).kf)=c7 P h op t x y (.bool (g x).kf) (.bool (g y).kf):=by
     simp only[c7,hK]
    rw[ak];exact gI e
 case call c=>
  split at au
  · rename_i ah
    rw[ah] at e⊢
    simp only[hZ] at e⊢
    split at au
    · rename_i t a6
      rw[a6] at e⊢
      cases hg:c.args.toList.map λx=>(g x).den with
      |nil=>rw[hg] at e;cases e
      |cons x l=>
       rw[hg] at e
       cases l with
       |nil=>
        simp only at e⊢
        split at au
        · rename_i el hu
          simp only[bU,hu] at e⊢
          cases x<;>simp only at e⊢ <;>exact gI e
        · rename_i hu
          simp only[bU,hu] at e⊢
          cases x<;>simp only at e⊢ <;>exact gI e
        · cases au
       |cons y l=>
        cases l with
        |nil=>simp only at e;cases e
        |cons z l=>simp only at e;cases e
    · cases au
  · cases au
 case typeAssert=>repeat' (first|contradiction|exact gI e|(cases e;done)|(cases e;exact⟨_,rfl⟩)|(cases e;simp_all;done)|split at e)
 all_goals repeat' (first|contradiction|exact gI e|(cases e;exact⟨_,rfl⟩)|(rw[if_pos (by assumption)];first|exact gI e|(cases e;exact⟨_,rfl⟩))|(cases e;done)|split at e)
theorem Jk{K:cQ}:∀(l:List aF),(uI l K).p->iU (aF.b3 l)=true/\K.p
 |[],h=>⟨rfl,h⟩
 |s::l,h=>by
  have key:s.den.sound=true/\(uI l K).p:=by
   cases s<;>simp only[uI] at h<;>first|exact h|(split at h<;>first|exact⟨by assumption,h⟩|cases h)
  obtain⟨b4,b0⟩:=Jk l key.2
  exact⟨by simp only[aF.b3,iU,key.1,b4,Bool.and_true],b0⟩
theorem Jl{s:aF}{K:cQ}(h:(DI s K).p):s.den.sound=true/\K.p:=by
 cases s<;>simp only[DI] at h<;>first|exact⟨rfl,h⟩|exact h|skip
 all_goals first
  |exact Jk _ h
  |(split at h
    · rename_i hs;exact⟨hs,h⟩
    · cases h)
theorem xl{o:Oper}{g:Operand->I}{v:I}{q7:Bool}{K:cQ}:∀(l:List (Option J)),(uK P o g v q7 l K).p->K.p/\(q7=false->∀h,some h∈l->nO P o g h v)
 |[],h=>⟨h,λ_ _ hm=>by cases hm⟩
 |none::l,h=>by
  obtain⟨aa,ad⟩:=xl l h
  exact⟨aa,λaK al hm=>by
   rcases List.mem_cons.1 hm with e|hm
   · cases e
   · exact ad aK al hm⟩
 |some x::l,h=>by
  simp only[uK] at h
  cases q7 with
  |true=>
   obtain⟨aa,ad⟩:=xl l h
   exact⟨aa,λaK=>by cases aK⟩
  |false=>
   obtain⟨h0,h⟩:=h
   obtain⟨aa,ad⟩:=xl l h
   exact⟨aa,λaK al hm=>by
    rcases List.mem_cons.1 hm with e|hm
    · cases e;exact h0
    · exact ad aK al hm⟩
theorem Jm{ops:Array Oper}{r:aT}{n:Nat}{env:List I}{s:DStep}{v:I}{gK:Nat}{H:Nat->J}:∀(a9:mv) (dX:Option Nat) (h:J) (cv:Nat),H cv=h->(∀z∈a9,H z.2.2.2=z.2.2.1)->(∀o∈uJ s gK dX h cv a9,lp P need ops r n env s v (match o with|none=>H gK|some h=>h)=true)->kx P need ops r n env s v dX h (hR a9)=true
 |[],dX,h,cv,ak,hs,au=>by
  simp only[hR]
  rw[zR]
  simp only[uJ] at au
  cases af:pN s dX [] with
  |true=>rfl
  |false=>
   rw[show pN s dX (hR [])=false from af] at au
   simp only[Bool.and_true]
   cases aE:Nat.beq cv gK with
   |true=>
    have:=au none (by rw[aE];simp)
    obtain rfl:=Nat.eq_of_beq_eq_true aE
    rw[<-ak];exact this
   |false=>exact au (some h) (by rw[aE];simp)
 |(e,m,al,kF)::rest,dX,h,cv,ak,hs,au=>by
  simp only[hR]
  rw[zR]
  simp only[uJ] at au
  have ba:=Jm (ops:=ops) (r:=r) (n:=n) (env:=env) (v:=v) rest (some e) al kF (hs _ List.mem_cons_self) (λz a4=>hs z (List.mem_cons_of_mem _ a4)) λo bd=>au o (List.mem_append.2 (.inr bd))
  simp only[]
  rw[ba,Bool.and_true]
  cases af:pN s dX ((e,m,al)::hR rest) with
  |true=>rfl
  |false=>
   rw[show pN s dX (hR ((e,m,al,kF)::rest))=false from af] at au
   simp only
   cases aE:Nat.beq cv gK with
   |true=>
    have:=au none (List.mem_append.2 (.inl (by rw[aE];simp)))
    obtain rfl:=Nat.eq_of_beq_eq_true aE
    rw[<-ak];exact this
   |false=>exact au (some h) (List.mem_append.2 (.inl (by rw[aE];simp)))
theorem DV{ops:Array Oper}{r:aT}{n:Nat}{env:List aF}{dL:List Nat}{Γ:dh}(hm:Mod r (c0 Γ)){last:Option Nat}{h:J}{cv:Nat}{a9:mv}{H:Nat->J}(c_:H cv=h)(ct:∀z∈a9,H z.2.2.2=z.2.2.1){K:cQ}:∀(l:List DStep),(∀s∈l,s.i<n->uL P need ops s n (aF.b3 env) (c0 Γ) dL H)->(k6 P need ops n env dL Γ last h cv a9 l K).p->kQ P need ops r n (aF.b3 env) last h (hR a9) l=true
 |[],_,_=>rfl
 |s::rest,hs,ab=>by
  simp only[kQ]
  simp only[k6] at ab
  have yP:=λ(k:(k6 P need ops n env dL Γ last h cv a9 rest K).p)=>DV hm c_ ct rest (λz a4=>hs z (List.mem_cons_of_mem _ a4)) k
  split at ab
  · rename_i af gU
    have ae:s.i<n:=by simpa using af
    obtain⟨_,Re⟩:=hs s List.mem_cons_self ae
    obtain⟨s8,nI⟩:=Re gU
    rw[af,gU]
    simp only
    split at ab
    · rename_i v gK aE lO
      have Jn:nth (n-1-s.i) (aF.b3 env)=some v.den:=I5 _ _ _ aE
      rw[Jn]
      simp only[Option.getD_some]
      have fin:∀(aw:(k6 P need ops n env dL Γ last h cv a9 rest K).p),(∀o∈uJ s gK last h cv a9,lp P need ops r n (aF.b3 env) s v.den (match o with|none=>H gK|some h=>h)=true)->(kx P need ops r n (aF.b3 env) s v.den last h (hR a9)&&kQ P need ops r n (aF.b3 env) last h (hR a9) rest)=true:=λaw bd=>by
       rw[yP aw,Bool.and_true]
       exact Jm a9 last h cv c_ ct bd
      split at ab
      · rename_i sj
        exact fin ab λo bd=>by rw[sj] at bd;cases bd
      · split at ab
        ·
         have DW:ey (gG P need ops r n (aF.b3 env) s)=some false->∀al,lp P need ops r n (aF.b3 env) s (aF.den (.v (.aW []))) al=true:=λhw al=>by
          unfold lp;rw[hw]
         split at ab
         · rename_i a b xd
           have aG:∀(x:aF),lL n env Γ a=some x->gG P need ops r n (aF.b3 env) s=some (x.den,b):=λx ab=>by
            have iT:gV n (aF.b3 env) (c0 Γ) a=some x.den:=by rw[<-uD,ab];rfl
            rw[xj,xd]
            simp only[Option.map_some,uE hm iT]
           split at ab
           · rename_i sv
             exact fin ab λo _=>DW (by rw[aG _ sv];rfl) _
           · rename_i sv
             cases b with
             |false=>exact fin ab λo _=>DW (by rw[aG _ sv];rfl) _
             |true=>cases ab
           · rename_i sv
             cases b with
             |true=>exact fin ab λo _=>DW (by rw[aG _ sv];rfl) _
             |false=>cases ab
           · cases ab
         · cases ab
        · rename_i dC
          obtain⟨eY,ab⟩:=Jl ab
          obtain⟨ab,Rf⟩:=xl _ ab
          have gS:(λx=>(kE P need n env Γ s.loc x).den)=λx=>(gV n (aF.b3 env) (c0 Γ) (cT P need s.loc x)).getD .bad:=funext λx=>DK
          refine fin ab λo bd=>?_
          rcases nI v.den gK Jn lO with e|⟨ep,e⟩
          · have hw:ey (gG P need ops r n (aF.b3 env) s)=some false:=by rw[xj];exact e.ok hm
            unfold lp;rw[hw]
          · have hw:ey (gG P need ops r n (aF.b3 env) s)=some true:=by rw[xj];exact ep.ok hm
            have look:∀al,(∃iW,cM P s.o (λx=>(kE P need n env Γ s.loc x).den) al=.val v.den iW)->lp P need ops r n (aF.b3 env) s v.den al=true:=λal ⟨iW,e⟩=>by
             have Rg:cM P s.o (λx=>dU n (aF.b3 env) r (cT P need s.loc x)) al=.val v.den iW:=by
              rw[<-e,gS]
              exact wK s.o al (DL hm s8)
             unfold lp
             simp only[hw,Rg]
             exact sI _ eY
            rw[<-gS] at e
            cases o with
            |none=>exact look _ e
            |some al=>
             refine look al ?_
             cases ak:Ac P s.o (kE P need n env Γ s.loc) with
             |true=>
              obtain⟨aa,e⟩:=e
              exact Rd ak e al
             |false=>exact⟨al,sH (Rf ak al bd)⟩
    · cases ab
  · rename_i so
    have ab:=yP ab
    rw[ab,Bool.and_true]
    cases af:Nat.blt s.i n with
    |false=>rfl
    |true=>
     cases aw:kindOf P s.o.op with
     |pure=>exact absurd aw (so af)
     |alloc=>rfl
     |eg=>rfl
theorem DX{ops:Array Oper}{n:Nat}{env:List aF}{dL:List Nat}{Γ:dh}{last:Option Nat}{h:J}{cv:Nat}{a9:mv}{K:cQ}:∀(l:List DStep),(k6 P need ops n env dL Γ last h cv a9 l K).p->K.p
 |[],ab=>ab
 |s::rest,ab=>by
  have ba:(k6 P need ops n env dL Γ last h cv a9 rest K).p->K.p:=λk=>DX rest k
  simp only[k6] at ab
  split at ab
  · split at ab
    · split at ab
      · exact ba ab
      · split at ab
        · split at ab
          · split at ab
            · exact ba ab
            · split at ab
              · exact ba ab
              · cases ab
            · split at ab
              · exact ba ab
              · cases ab
            · cases ab
          · cases ab
        · exact ba (xl _ (Jl ab).2).1
    · cases ab
  · exact ba ab
def Jo(P:Program)(need:Nat)(inR:Bool)(call:ay->List I->J->an)(pl:kg)(hQ:Nat)(ops:Array Oper)(Γ:dh)(d:List b1)(q:bJ)(h:J)(K:bF->dh->List b1->bJ->J->cQ):cQ:=
 q9 P need inR call pl hQ ops h.n (e1 ops.toList 0 [] []) [] [] Γ d q (h.room ops.size) 0 []
  (λenv dL Γ d q h cv a9=>k6 P need ops env.length env dL Γ none h cv a9 (e1 ops.toList 0 [] []) (nf (s4 need env.length env Γ (ib ops.toList 0 []) Γ) λΓ=>K .nrm Γ d q h))
  (λv env dL Γ d q h cv a9=>match a9 with
   |(e,m,h0,uM)::a9=>k6 P need ops env.length env dL Γ (some e) h0 uM a9 (e1 ops.toList 0 [] []) (nf (xg (ib ops.toList 0 []) Γ) λΓ=>K (.b9 v) Γ d q h)
   |[]=>bad "a panic")
def DY(P:Program)(need:Nat)(rd:Option Nat)(call:ay->List I->J->an)(c:Code)(Γ:dh)(d:List b1)(q:bJ)(h:J)(K:bF->dh->List b1->bJ->J->cQ):Prop:=∃e b8 bG bP al,ck P need rd call c ⟨c0 Γ,d,q,h⟩ e ⟨c0 b8,bG,bP,al⟩/\(K e b8 bG bP al).p
theorem Rh{rd:Option Nat}{pl:kg}{hQ:Nat}{ops:Array Oper}{Γ:dh}{d:List b1}{q:bJ}{h:J}{K:bF->dh->List b1->bJ->J->cQ}(ab:(Jo P need rd.isSome call pl hQ ops Γ d q h K).p):DY P need rd call (.region hQ ops true) Γ d q h K:=by
 have o1:∀(k:Nat) (s:DStep),(e1 ops.toList 0 [] [])[k]? =some s->s.i=k:=λk s hs=>by have:=Jg _ _ _ _ _ _ hs;omega
 have jm:mw P need ops [] [] [] Γ (h.room ops.size) 0 [] (λ_=>h.room ops.size):=⟨rfl,λ_ hm=>(by cases hm),λ_ hm=>(by cases hm),rfl,λ_ hm=>(by cases hm)⟩
 rcases s7 o1 (e1 ops.toList 0 [] []) [] [] [] Γ d q (h.room ops.size) 0 [] _ rfl jm ab with⟨fb,ra,b8,bG,bP,al,kF,q_,aX,bh,bz,w,dq⟩|⟨v,fb,ra,b8,bG,bP,al,kF,e,m,h0,uM,q0,aX,xk,bh,bz,w,⟨post,bl⟩,dq⟩
 · refine⟨.nrm,_,bG,bP,al,λr hm=>?_,nR (DX _ dq)⟩
   have aa:=bh r hm
   have ad:=DV (r:=r) (by rw[bz];exact hm) w.cur (λz a4=>(w.st z a4).2) _ (λs hs _=>w.seen s hs) dq
   refine⟨_,?_,DP (by rw[bz];exact hm) _ _ _ (by rw[bz];exact hm)⟩
   have fm:ga P need rd.isSome call ops r h.n (e1 ops.toList 0 [] []) [] d q ⟨h.t,h.n+ops.size⟩ []=.ok (aF.b3 fb) bG bP al (hR q_):=aa
   simp only[dG,rT,fm,Ad,ad,pr]
 · refine⟨.b9 v,_,bG,bP,al,λr hm=>?_,nR (DX _ dq)⟩
   have aa:=bh r hm
   have Ri:∀s∈e1 ops.toList 0 [] [],s.i<fb.length->uL P need ops s fb.length (aF.b3 fb) (c0 b8) ra aX:=λs hs ae=>by
    refine w.seen s ?_
    obtain⟨k,aw,oP⟩:=List.getElem_of_mem hs
    have aap:s.i=k:=o1 k s (by rw[List.getElem?_eq_getElem aw,oP])
    have Jp:k<xk.length:=by rw[w.pl];omega
    have:(xk++post)[k]? =some s:=by rw[<-bl,List.getElem?_eq_getElem aw,oP]
    rw[List.getElem?_append_left Jp] at this
    exact List.mem_of_getElem? this
   have ad:=DV (r:=r) (by rw[bz];exact hm) w.cur (λz a4=>(w.st z a4).2) _ Ri dq
   refine⟨_,?_,DQ _ _ _ (by rw[bz];exact hm)⟩
   have fm:ga P need rd.isSome call ops r h.n (e1 ops.toList 0 [] []) [] d q ⟨h.t,h.n+ops.size⟩ []=.b9 v (aF.b3 fb) bG bP al ((e,m,h0)::hR q0):=aa
   simp only[dG,rT,fm,Ad,ad,pr]
end
end aD
namespace aD
open Go
abbrev s9:=bF->dh->List b1->bJ->J->cQ
def Ae(P:Program):List (Nat×jT)->(dh->cQ)->cQ
 |[],K=>K []
 |(t,s)::l,K=>shape P 9 s λx=>Ae P l λΓ=>K ((t,x)::Γ)
def DZ(P:Program)(d:List b1)(q:bJ)(K:s9)(cG:bF)(cH:ag):List (bF×List (Nat×jT))->cQ
 |[]=>bad "loop"
 |[(e,rs)]=>Ae P rs λfl=>eb λg:J=>eb λb8:Env=>fW (cG=e) (fW (cH=⟨b8,d,q,g⟩) (fW (cC (c0 fl) b8) (K e fl d q g)))
 |(e,rs)::l=>.mk ((Ae P rs λfl=>eb λg:J=>eb λb8:Env=>fW (cG=e) (fW (cH=⟨b8,d,q,g⟩) (fW (cC (c0 fl) b8) (K e fl d q g)))).p\/(DZ P d q K cG cH l).p)
def Rj:Operand->Nat
 |.tmp t=>t
 |_=>999
def Af(P:Program)(call:ay->List I->J->an)(fn:Func)(pl:kg)(fT:Nat)(path:List Nat)(Γ:dh)(d:List b1)(q:bJ)(h:J)(K:s9):cQ:=match sS (4000+fT) pl with
 |some (.ik ins outs)=>.mk (bw P fn call path ⟨ml (c0 Γ) ins,d,q,h⟩ λcG cH=>(DZ P d q K cG cH outs).p)
 |_=>bad "loop"
def mz(P:Program)(call:ay->List I->J->an)(fn:Func)(need:Nat)(pl:kg):Code->Nat->List Nat->dh->List b1->bJ->J->s9->cQ
 |.skip,_,_,Γ,d,q,h,K=>K .nrm Γ d q h
 |.label _,_,_,Γ,d,q,h,K=>K .nrm Γ d q h
 |.exit id,_,_,Γ,d,q,h,K=>K (.exit id) Γ d q h
 |.ret,_,_,Γ,d,q,h,K=>K .ret Γ d q h
 |.scope b,fT,p,Γ,d,q,h,K=>mz P call fn need pl b fT (p++[0]) Γ d q h K
 |.region id ops draw,_,_,Γ,d,q,h,K=>match draw with
  |false=>xf P need false call pl id (ou P need ops).steps [] Γ d q h
   (λenv Γ d q h=>nf (s4 need env.length env Γ (ou P need ops).loc Γ) λΓ=>K .nrm Γ d q h)
   (λv Γ d q h=>nf (xg (ou P need ops).loc Γ) λΓ=>K (.b9 v) Γ d q h)
  |true=>Jo P need false call pl id ops Γ d q h K
 |.seq a b,fT,p,Γ,d,q,h,K=>mz P call fn need pl a fT (p++[0]) Γ d q h λe Γ d q h=>match e with
  |.nrm=>mz P call fn need pl b fT (p++[1]) Γ d q h K
  |e=>K e Γ d q h
 |.cond c a b,fT,p,Γ,d,q,h,K=>match lL 0 [] Γ (cT P need [] c) with
  |none=>bad "if"
  |some s=>s.cA (z7 (sS (1000+Rj c) pl)) (nf (sR (cT P need [] c) .jt Γ) λΓ=>mz P call fn need pl a fT (p++[0]) Γ d q h K) (nf (sR (cT P need [] c) .ju Γ) λΓ=>mz P call fn need pl b fT (p++[1]) Γ d q h K)
 |.block id b,_,p,Γ,d,q,h,K=>mz P call fn need pl b id (p++[0]) Γ d q h λe Γ d q h=>match e with
  |.exit i=>match Nat.beq i id with
   |true=>K .nrm Γ d q h
   |false=>K (.exit i) Γ d q h
  |e=>K e Γ d q h
 |.loop _,fT,p,Γ,d,q,h,K=>Af P call fn pl fT p Γ d q h K
 |.rangeFunc _ _ _ _,fT,p,Γ,d,q,h,K=>Af P call fn pl (500+fT) p Γ d q h K
 |_,_,_,_,_,_,_,_=>bad "code"
section
variable {P:Program} {call:ay->List I->J->an} {fn:Func}
theorem D0:∀(l:List (Nat×jT)) {K:dh->cQ},(Ae P l K).p->∃Γ,(K Γ).p
 |[],K,h=>⟨[],h⟩
 |(t,s)::l,K,h=>by
  obtain⟨x,h⟩:=sZ h
  obtain⟨Γ,h⟩:=D0 l h
  exact⟨_,h⟩
theorem Jq{d:List b1}{q:bJ}{K:s9}{cG:bF}{cH:ag}:∀(l:List (bF×List (Nat×jT))),(DZ P d q K cG cH l).p->∃fl b8 g,cH=⟨b8,d,q,g⟩/\cC (c0 fl) b8/\(K cG fl d q g).p
 |[],h=>by cases h
 |[(e,rs)],h=>by
  obtain⟨fl,g,b8,rfl,ad,ax,aO⟩:=D0 _ h
  exact⟨fl,b8,g,ad,ax,aO⟩
 |(e,rs)::y::l,h=>by
  rcases h with h|h
  · obtain⟨fl,g,b8,rfl,ad,ax,aO⟩:=D0 _ h
    exact⟨fl,b8,g,ad,ax,aO⟩
  · exact Jq (y::l) h
theorem Ag(Γ:Env):∀l:List Nat,cC (ml Γ l) Γ
 |[]=>trivial
 |t::l=>by
  simp only[ml]
  cases h:fh t Γ with
  |none=>exact Ag Γ l
  |some v=>exact⟨h,Ag Γ l⟩
theorem Jr{pl:kg}{fT:Nat}{p:List Nat}{Γ:dh}{d:List b1}{q:bJ}{h:J}{K:s9}(ab:(Af P call fn pl fT p Γ d q h K).p):DY P (d_ fn) none call (sub (fX fn) p) Γ d q h K:=by
 unfold Af at ab
 split at ab
 · obtain⟨e,st,ai,bq⟩:=ab
   obtain⟨fl,b8,g,rfl,ax,aO⟩:=Jq _ bq
   have aa:ck P (d_ fn) none call (sub (fX fn) p) ⟨c0 Γ,d,q,h⟩ e ⟨b8,d,q,g⟩:=ck.pre (st1:=⟨c0 Γ,d,q,h⟩) ai (Ag _ _) rfl rfl rfl
   exact⟨e,fl,d,q,g,ck.post aa ax,aO⟩
 · cases ab
theorem re{pl:kg}:∀(c:Code) (fT:Nat) (p:List Nat) (Γ:dh) (d:List b1) (q:bJ) (h:J) (K:s9),sub (fX fn) p=c->(mz P call fn (d_ fn) pl c fT p Γ d q h K).p->DY P (d_ fn) none call c Γ d q h K
 |.skip,fT,p,Γ,d,q,h,K,ah,ab=>⟨.nrm,Γ,d,q,h,λr ai=>⟨r,rfl,ai⟩,ab⟩
 |.label _,fT,p,Γ,d,q,h,K,ah,ab=>⟨.nrm,Γ,d,q,h,λr ai=>⟨r,rfl,ai⟩,ab⟩
 |.exit id,fT,p,Γ,d,q,h,K,ah,ab=>⟨.exit id,Γ,d,q,h,λr ai=>⟨r,rfl,ai⟩,ab⟩
 |.ret,fT,p,Γ,d,q,h,K,ah,ab=>⟨.ret,Γ,d,q,h,λr ai=>⟨r,rfl,ai⟩,ab⟩
 |.scope b,fT,p,Γ,d,q,h,K,ah,ab=>re b fT (p++[0]) Γ d q h K (by rw[ke,ah];simp[sub]) ab
 |.region id ops draw,fT,p,Γ,d,q,h,K,ah,ab=>by
  simp only[mz] at ab
  cases draw with
  |true=>exact Rh ab
  |false=>
   rcases DO _ _ _ _ _ _ ab with⟨fb,b8,bG,bP,al,bh,bz,dq⟩|⟨v,b8,bG,bP,al,bh,bz,dq⟩
   · refine⟨.nrm,_,bG,bP,al,λr ai=>⟨_,?_,DP (by rw[bz];exact ai) _ _ _ (by rw[bz];exact ai)⟩,nR dq⟩
     have aa:jJ P (d_ fn) false call r (ou P (d_ fn) ops).steps [] d q h=.ok (aF.b3 fb) bG bP al:=bh r ai
     simp only[dG,Option.isSome_none,aa,pr,Ad]
   · refine⟨.b9 v,_,bG,bP,al,λr ai=>⟨_,?_,DQ _ _ _ (by rw[bz];exact ai)⟩,nR dq⟩
     have aa:jJ P (d_ fn) false call r (ou P (d_ fn) ops).steps [] d q h=.b9 v bG bP al:=bh r ai
     simp only[dG,Option.isSome_none,aa,pr]
 |.seq a b,fT,p,Γ,d,q,h,K,ah,ab=>by
  obtain⟨e,gC,d1,aV,aa,bb,b4⟩:=re a fT (p++[0]) Γ d q h _ (by rw[ke,ah];simp[sub]) ab
  by_cases he:e=.nrm
  · subst he
    obtain⟨aC,Γ2,d2,aN,ad,a3,b0⟩:=re b fT (p++[1]) gC d1 aV aa K (by rw[ke,ah];simp[sub]) b4
    refine⟨aC,Γ2,d2,aN,ad,λr ai=>?_,b0⟩
    obtain⟨mA,g3,mB⟩:=bb r ai
    obtain⟨Rk,rf,Rl⟩:=a3 mA mB
    exact⟨Rk,by simp only at g3 rf;simp only[dG,g3,pt,rf],Rl⟩
  · refine⟨e,gC,d1,aV,aa,λr ai=>?_,by cases e<;>first|exact absurd rfl he|exact b4⟩
    obtain⟨mA,g3,mB⟩:=bb r ai
    exact⟨mA,by simp only[dG,g3];exact sh he,mB⟩
 |.cond c a b,fT,p,Γ,d,q,h,K,ah,ab=>by
  simp only[mz] at ab
  split at ab
  · cases ab
  · rename_i s hs
    have iT:gV 0 [] (c0 Γ) (cT P (d_ fn) [] c)=some s.den:=by rw[show([]:List I)=aF.b3 [] from rfl,<-uD,hs];rfl
    obtain⟨af,bg⟩:=z_ _ ab
    have aG:=aF.oY af
    rcases bg with⟨a6,aw⟩|⟨a6,aw⟩
    · rw[a6] at aG
      obtain⟨_,aC,_⟩:=uF (x:=.jt) hs aG
      obtain⟨e,gC,d1,aV,aa,bb,b4⟩:=re a fT (p++[0]) _ d q h K (by rw[ke,ah];simp[sub]) (nR aw)
      refine⟨e,gC,d1,aV,aa,λr ai=>?_,b4⟩
      obtain⟨mA,g3,mB⟩:=bb r (by rw[aC];exact ai)
      exact⟨mA,by simp only at g3;simp only[dG,uE ai iT,aG,g3],mB⟩
    · rw[a6] at aG
      obtain⟨_,aC,_⟩:=uF (x:=.ju) hs aG
      obtain⟨e,gC,d1,aV,aa,bb,b4⟩:=re b fT (p++[1]) _ d q h K (by rw[ke,ah];simp[sub]) (nR aw)
      refine⟨e,gC,d1,aV,aa,λr ai=>?_,b4⟩
      obtain⟨mA,g3,mB⟩:=bb r (by rw[aC];exact ai)
      exact⟨mA,by simp only at g3;simp only[dG,uE ai iT,aG,g3],mB⟩
 |.block id b,fT,p,Γ,d,q,h,K,ah,ab=>by
  obtain⟨e,gC,d1,aV,aa,bb,b4⟩:=re b id (p++[0]) Γ d q h _ (by rw[ke,ah];simp[sub]) ab
  cases e with
  |exit i=>
   simp only at b4
   cases ae:Nat.beq i id with
   |true=>
    rw[ae] at b4
    obtain rfl:=Nat.eq_of_beq_eq_true ae
    exact⟨.nrm,gC,d1,aV,aa,λr ai=>by
     obtain⟨mA,g3,mB⟩:=bb r ai
     exact⟨mA,by simp only at g3;simp only[dG,g3,if_true],mB⟩,b4⟩
   |false=>
    rw[ae] at b4
    have dC:¬i=id:=by intro cY;subst cY;simp at ae
    exact⟨.exit i,gC,d1,aV,aa,λr ai=>by
     obtain⟨mA,g3,mB⟩:=bb r ai
     exact⟨mA,by simp only at g3;simp only[dG,g3,if_neg dC],mB⟩,b4⟩
  |_=>
   exact⟨_,gC,d1,aV,aa,λr ai=>by
    obtain⟨mA,g3,mB⟩:=bb r ai
    exact⟨mA,by simp only at g3;simp only[dG,g3],mB⟩,b4⟩
 |.loop b,fT,p,Γ,d,q,h,K,ah,ab=>by
  have:=Jr ab;rw[ah] at this;exact this
 |.rangeFunc f ps as cn,fT,p,Γ,d,q,h,K,ah,ab=>by
  have:=Jr ab;rw[ah] at this;exact this
 |.goto _,fT,p,Γ,d,q,h,K,ah,ab=>by simp only[mz] at ab;cases ab
 |.refuse _,fT,p,Γ,d,q,h,K,ah,ab=>by simp only[mz] at ab;cases ab
def Js(P:Program)(fn:Func)(call:ay->List I->J->an)(pl:kg)(bH:List Nat)(path:List Nat)(Γ:dh)(d:List b1)(q:bJ)(h:J)(Q:bF->ag->Prop):Prop:=
 (mz P call fn (d_ fn) pl (sub (fX fn) path) 0 path Γ d q h λe Γ d q h=>.mk (Q e ⟨ml (c0 Γ) bH,d,q,h⟩)).p
theorem e6(pl:kg)(bH:List Nat)(Γ:dh){b8:Env}{path:List Nat}{d:List b1}{q:bJ}{h:J}{Q:bF->ag->Prop}(dd:c0 Γ=b8)(H:Js P fn call pl bH path Γ d q h Q):bw P fn call path ⟨b8,d,q,h⟩ Q:=by
 subst dd
 obtain⟨e,gC,d1,aV,aa,bb,b4⟩:=re _ 0 path Γ d q h _ rfl H
 exact⟨e,_,ck.post bb (Ag _ bH),b4⟩
def Jt(P:Program)(fn:Func)(R:an->Prop):s9:=λe Γ d q h=>match d with
 |[]=>match e with
  |.b9 v=>.mk (R (.b9 v h))
  |.ret|.nrm=>match na P (d_ fn) fn (c0 Γ) h with
   |some v=>.mk (R (.ret v h))
   |none=>bad "results"
  |_=>bad "end"
 |_=>bad "deferred"
def Ju(P:Program)(fn:Func)(call:ay->List I->J->an)(pl:kg)(Γ:dh)(h:J)(R:an->Prop):Prop:=
 (mz P call fn (d_ fn) pl (fX fn) 0 [] Γ [] .none h (Jt P fn R)).p
theorem dF{intr:Nat->List I->J->Option (I×J)}{f n:Nat}{args:List I}{h:J}{R:an->Prop}(pl:kg)(Γ:dh)(hf:P.funcs[f]? =some fn)(af:fn.body.isSome=true)(ae:intr f args h=none)(hle:Nat.ble args.length fn.ntmps=true)(dd:c0 Γ=nQ 0 args)(H:Ju P fn (fD P intr n) pl Γ h R):R (fD P intr (n+1) (.fn f) args h):=by
 refine I2 hf af ae hle (Q:=λe s=>s.d=[]/\((∃v,e=.b9 v/\R (.b9 v s.h))\/((e=.ret\/e=.nrm)/\∃v,na P (d_ fn) fn s.Γ s.h=some v/\R (.ret v s.h)))) ?_ λe s bq=>?_
 · have hs:sub (fX fn) []=fX fn:=by cases fX fn<;>rfl
   obtain⟨e,gC,d1,aV,aa,bb,b4⟩:=re (fX fn) 0 [] Γ [] .none h _ hs H
   rw[dd] at bb
   refine⟨e,⟨c0 gC,d1,aV,aa⟩,by unfold av;rw[hs];exact bb,?_⟩
   unfold Jt at b4
   split at b4
   · refine⟨rfl,?_⟩
     split at b4
     · exact .inl ⟨_,rfl,b4⟩
     · split at b4
       · rename_i v aE;exact .inr ⟨.inl rfl,v,aE,b4⟩
       · cases b4
     · split at b4
       · rename_i v aE;exact .inr ⟨.inr rfl,v,aE,b4⟩
       · cases b4
     · cases b4
   · cases b4
 · obtain⟨aG,bq⟩:=bq
   rcases bq with⟨v,rfl,ai⟩|⟨he,v,aE,ai⟩
   · exact .inr ⟨v,rfl,aG,ai⟩
   · exact .inl ⟨he,aG,v,aE,ai⟩
end
attribute [irreducible] Js Ju
end aD
