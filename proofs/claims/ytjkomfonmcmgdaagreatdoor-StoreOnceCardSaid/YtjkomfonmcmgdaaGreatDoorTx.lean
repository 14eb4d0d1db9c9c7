/-
  PROVED HERE: contracts of functions (Tx). No condition beside each statement's own.
-/
import Derived.Test.YtjkomfonmcmgdaaGreatDoorSxb
set_option linter.unusedVariables false
set_option linter.unusedSimpArgs false
namespace bt
open Go
inductive Stop(jG:String):Prop
inductive c2 where
 |mk (p:Prop)
def c2.p:c2->Prop
 |.mk p=>p
abbrev bad(w:String):c2:=.mk (Stop w)
abbrev gx(p:Prop)(k:c2):c2:=.mk (p/\k.p)
abbrev gX{α:Type}(f:α->c2):c2:=.mk (∃x:α,(f x).p)
abbrev zm(c c':Prop)(a b:c2):c2:=.mk ((c->a.p)/\(c'->b.p))
inductive aH where
 |v (a:I)
 |o (a:I)
 |jz|kq
 |lt (i n:Nat)|le (i n:Nat)|eq (i n:Nat)
 |bW (s:aH)
 |kI (l:List aH)
 |fC (l:List aH)
def aH.k3:aH->Bool
 |.jz=>true
 |.kq=>false
 |.lt i n=>bP (.ofNat i) (.ofNat n)
 |.le i n=>eQ (.ofNat i) (.ofNat n)
 |.eq i n=>a8 (.ofNat i) (.ofNat n)
 |.bW s=>!s.k3
 |.v (.bool b)=>b
 |_=>false
def aH.uD:aH->Bool
 |.jz|.kq|.lt _ _|.le _ _|.eq _ _|.bW _=>true
 |.v (.bool _)=>true
 |_=>false
mutual
def aH.den:aH->I
 |.v a=>a
 |.o a=>a
 |.jz=>.bool true
 |.kq=>.bool false
 |.lt i n=>.bool (bP (.ofNat i) (.ofNat n))
 |.le i n=>.bool (eQ (.ofNat i) (.ofNat n))
 |.eq i n=>.bool (a8 (.ofNat i) (.ofNat n))
 |.bW s=>.bool (!s.k3)
 |.kI l=>.agg (aH.b8 l)
 |.fC l=>.aO (aH.b8 l)
def aH.b8:List aH->List I
 |[]=>[]
 |s::l=>s.den::aH.b8 l
end
def l7:I->aH
 |.bool true=>.jz
 |.bool false=>.kq
 |v=>.v v
abbrev dn:=List (Nat×aH)
def c9:dn->Env
 |[]=>[]
 |(t,s)::l=>(t,s.den)::c9 l
def uE(t:Nat):dn->Option aH
 |[]=>none
 |(u,s)::l=>match Nat.beq t u with
  |true=>some s
  |false=>uE t l
def uF:Nat->List aH->Option aH
 |_,[]=>none
 |0,s::_=>some s
 |n+1,_::l=>uF n l
def uG:Nat->aH->List aH->List aH
 |_,_,[]=>[]
 |0,x,_::l=>x::l
 |n+1,x,s::l=>s::uG n x l
def Cm(t:Nat)(x:aH):dn->dn
 |[]=>[]
 |(u,s)::l=>match Nat.beq t u with
  |true=>(u,x)::l
  |false=>(u,s)::Cm t x l
def mP(m:Nat)(env:List aH)(Γ:dn):Acc->Option aH
 |.env j=>match Nat.blt j m with
  |true=>uF (m-1-j) env
  |false=>none
 |.reg p=>uE p.num Γ
 |.val v=>some (l7 v)
def wA(m:Nat)(a:Acc)(b:aH)(env:List aH):List aH:=match a with
 |.env j=>uG (m-1-j) b env
 |_=>env
def uH(a:Acc)(b:aH)(Γ:dn):dn:=match a with
 |.reg p=>Cm p.num b Γ
 |_=>Γ
def aH.mQ(s:aH)(K:aH->c2):c2:=match s with
 |.v a=>K (.v a)
 |.o a=>K (.o a)
 |.jz=>K .jz
 |.kq=>K .kq
 |.lt i n=>K (.lt i n)
 |.le i n=>K (.le i n)
 |.eq i n=>K (.eq i n)
 |.bW s=>K (.bW s)
 |.kI l=>K (.kI l)
 |.fC l=>K (.fC l)
def sN:List aH->(List aH->c2)->c2
 |[],K=>K []
 |s::l,K=>s.mQ λs=>sN l λl=>K (s::l)
def oy:dn->(dn->c2)->c2
 |[],K=>K []
 |(t,s)::l,K=>s.mQ λs=>oy l λl=>K ((t,s)::l)
inductive kJ where
 |ty (t:TypeId)
 |is (v:I)|io (v:I)
 |z (k:IntKind)
 |n (k:IntKind)
 |o
 |p|LB
 |st|b
 |fx|wB (c:bR)
 |fC (l:List kJ)|kI (l:List kJ)
 |LC (t:TypeId) (s:kJ)
 |fn (f:Nat) (k:Nat)
inductive qe where
 |bq (s:kJ)
 |t|f
 |p (s:kJ)
 |e (r:Option kJ) (s:kJ)
 |gO (ins:List Nat) (outs:List (bu×List (Nat×kJ)))
def FY:List aH->List aH
 |[]=>[]
 |.kI l::r=>l++FY r
 |s::r=>s::FY r
abbrev k4:=List (Nat×qe)
def uI(k:Nat):k4->Option qe
 |[]=>none
 |(j,o)::l=>match Nat.beq k j with
  |true=>some o
  |false=>uI k l
mutual
def shape(P:Program):Nat->kJ->(aH->c2)->c2
 |0,_,_=>bad "shape"
 |n+1,s,K=>match s with
  |.is v=>K (l7 v)
  |.io v=>K (.o v)
  |.z k=>gX λx:Int=>K (.o (.int k x))
  |.n k=>gX λx:Nat=>K (.v (.int k (.ofNat x)))
  |.o=>gX λx:I=>K (.o x)
  |.p=>gX λx:Nat=>K (.v (.ptr x 0))
  |.LB=>gX λx:Nat=>gX λy:Nat=>K (.v (.ptr x y))
  |.st=>gX λx:List UInt8=>K (.v (.str x))
  |.b=>gX λx:Bool=>K (.v (.bool x))
  |.fx=>gX λx:Nat=>gX λy:Nat=>gX λz:Nat=>gX λc:bR=>K (.v (.slice x y z c))
  |.wB c=>gX λx:Nat=>gX λz:Nat=>K (.v (.slice x 0 z c))
  |.fC l=>sO P n l λr=>K (.fC r)
  |.kI l=>sO P n l λr=>K (.kI r)
  |.LC t s=>shape P n s λx=>K (.v (.iface t x.den))
  |.fn f k=>gX λx:List I=>K (.v (.fn f [] x))
  |.ty t=>match P.underlying t with
   |some .bool=>gX λx:Bool=>K (.v (.bool x))
   |some (.int k)=>gX λx:Nat=>K (.v (.int k (.ofNat x)))
   |some .string=>gX λx:List UInt8=>K (.v (.str x))
   |some (.pointer _)=>gX λx:Nat=>K (.v (.ptr x 0))
   |some (.struct b0)=>sO P n (b0.toList.map λf=>.ty f.type) λr=>K (.kI (FY r))
   |some (.tuple ck)=>sO P n (ck.toList.map .ty) λr=>K (.fC r)
   |some .invalid=>K (.v (.aO []))
   |some _=>gX λx:I=>K (.o x)
   |none=>K (.v (.aO []))
def sO(P:Program):Nat->List kJ->(List aH->c2)->c2
 |0,_,_=>bad "shapes"
 |n+1,l,K=>match l with
  |[]=>K []
  |s::l=>shape P n s λx=>sO P n l λr=>K (x::r)
end
def aH.ig(eO:Option Bool)(A B:c2):aH->c2
 |.jz=>A
 |.kq=>B
 |.lt i n=>match eO with
  |none=>zm (i<n) (¬i<n) A B
  |some true=>gx (i<n) A
  |some false=>gx (¬i<n) B
 |.le i n=>match eO with
  |none=>zm (i<=n) (¬i<=n) A B
  |some true=>gx (i<=n) A
  |some false=>gx (¬i<=n) B
 |.eq i n=>match eO with
  |none=>zm (i=n) (¬i=n) A B
  |some true=>gx (i=n) A
  |some false=>gx (¬i=n) B
 |.bW s=>s.ig (match eO with|none=>none|some b=>some (!b)) B A
 |.v (.bool x)=>match eO with
  |none=>zm (x=true) (x=false) A B
  |some true=>gx (x=true) A
  |some false=>gx (x=false) B
 |_=>bad "choice"
def Cn(o:Option qe):Option Bool:=match o with
 |some .t=>some true
 |some .f=>some false
 |_=>none
def FZ(o:Option qe)(t:TypeId):kJ:=match o with
 |some (.bq s)=>s
 |_=>.ty t
def F0(op:BinOp)(x y:aH):Option aH:=match x,y with
 |.v (.int k (.ofNat a)),.v (.int dh (.ofNat b))=>match decide (k=dh) with
  |true=>match op with
   |.lss=>some (.lt a b)
   |.leq=>some (.le a b)
   |.gtr=>some (.lt b a)
   |.geq=>some (.le b a)
   |.eql=>some (.eq a b)
   |.neq=>some (.bW (.eq a b))
   |_=>none
  |false=>none
 |_,_=>none
def F1(op:BinOp)(x y:aH):Option (Prop×I):=match x,y with
 |.v (.int k (.ofNat a)),.v (.int dh (.ofNat b))=>match decide (k=dh),op,k with
  |true,.add,.i64=>some (a+b<9223372036854775808,.int .i64 (.ofNat (a+b)))
  |true,.sub,.i64=>some (b<=a/\a<9223372036854775808,.int .i64 (.ofNat (a-b)))
  |true,.mul,.i64=>some (a*b<9223372036854775808,.int .i64 (.ofNat (a*b)))
  |true,.add,.u64=>some (a+b<18446744073709551616,.int .u64 (.ofNat (a+b)))
  |true,.sub,.u64=>some (b<=a/\a<18446744073709551616,.int .u64 (.ofNat (a-b)))
  |_,_,_=>none
 |.v (.str a),.v (.str b)=>match op with
  |.add=>some (a.length+b.length<=1000000000000,.str (a++b))
  |_=>none
 |_,_=>none
def uJ:aH->List I
 |.o a=>[a]
 |s=>s.den.cells
def uK:List aH->c2->c2
 |[],K=>K
 |.o a::l,K=>gx (a.cO=true) (uK l K)
 |_::l,K=>uK l K
def uL:List aH->Bool
 |[]=>true
 |.o _::l=>uL l
 |s::l=>s.den.cO&&uL l
def wC(s:aH)(K:c2):c2:=match s with
 |.o a=>gx (a.cO=true) K
 |.kI l=>match uL l with
  |true=>uK l K
  |false=>bad "cells"
 |s=>match s.den.cells.all I.cO with
  |true=>K
  |false=>bad "cells"
def nC:aH->List aH
 |.kI l=>l
 |.v (.agg cs)=>cs.map l7
 |s=>[s]
def aH.F2:aH->Bool
 |.o _=>true
 |_=>false
def uM(place:Nat->Option (Nat×Nat)):List aH->List (Nat×aH)->Option (List aH)
 |cells,[]=>some cells
 |cells,(i,s)::rest=>match place i with
  |none=>none
  |some (off,size)=>match Nat.beq (nC s).length size&&Nat.ble (off+size) cells.length with
   |true=>uM place (cells.take off++nC s++(cells.drop off).drop (nC s).length) rest
   |false=>none
def oz:List (Nat×aH)->List aH
 |[]=>[]
 |(_,s)::l=>nC s++oz l
def Co(P:Program)(t:TypeId)(len:Nat)(ps:List (Nat×aH))(K:TypeId->List aH->c2):c2:=match P.underlying t with
 |some (.slice e)=>match dx P e,ev P e with
  |some sz,some z=>match Nat.ble (len*sz) 16777216&&Nat.beq z.cells.length sz,(if len*sz=0 then[] else fs len z.cells).all I.cO,uM (λi=>some (i*sz,sz)) ((if len*sz=0 then[] else fs len z.cells).map l7) ps,uL (oz ps) with
   |true,true,some cs,true=>uK (oz ps) (sN cs λcs=>K e cs)
   |_,_,_,_=>bad "buildSlice"
  |_,_=>bad "buildSlice"
 |_=>bad "buildSlice"
def eS(a b:Bool):Bool:=a==b
def F3(P:Program)(op:BinOp)(t:TypeId)(x y:aH):Option aH:=match x.uD&&y.uD,P.underlying t,op with
 |true,some .bool,.eql=>some (.v (.bool (eS x.k3 y.k3)))
 |true,some .bool,.neq=>some (.bW (.v (.bool (eS x.k3 y.k3))))
 |_,_,_=>none
def UY(x y:aH):Bool:=match x,y with
 |.v (.ptr _ _),.v .aZ|.v .aZ,.v .aZ|.v (.slice _ _ _ _),.v .aS|.v .aS,.v .aS|.v (.iface _ _),.v .e7|.v .e7,.v .e7=>true
 |_,_=>false
section
variable (P:Program) (inR:Bool) (call:aP)
abbrev qf:=aH->List bZ->bL->J->c2
abbrev qg:=I->List bZ->bL->J->c2
def Cp(eO:Option qe)(t:TypeId)(f:eJ)(args:List I)(d:List bZ)(q:bL)(h:J)(K:qf)(b2:qg):c2:=match eO with
 |some (.p s)=>shape P 9 s λx=>gX λg:J=>gx (call f args h=.ca x.den g) (b2 x.den d q g)
 |some (.e r s)=>.mk ((shape P 9 (match r with|some r=>r|none=>.ty t) λx=>gX λg:J=>gx (call f args h=.ret x.den g) (K x d q g)).p\/(shape P 9 s λx=>gX λg:J=>gx (call f args h=.ca x.den g) (b2 x.den d q g)).p)
 |eO=>shape P 9 (FZ eO t) λx=>gX λg:J=>gx (call f args h=.ret x.den g) (K x d q g)
def rv(eO:Option qe)(o:Oper)(g:Operand->aH)(d:List bZ)(q:bL)(h:J)(K:qf)(b2:qg):c2:=
 match Fy o (λx=>(g x).den) with
 |0=>match cP P o (λx=>(g x).den) h with
  |.val v an=>match eO with
   |some (.bq .o)=>K (.o v) d q an
   |_=>K (.v v) d q an
  |.ca v an=>b2 v d q an
  |.call f args an=>Cp P call eO o.type (.fn f) args d q an K b2
  |.dt l args an=>Cp P call eO o.type (.dt l) args d q an K b2
  |.lT x=>match inR with
   |true=>bad "defer"
   |false=>K (.v (.aO [])) (x::d) q h
  |.tx=>match inR with
   |true=>bad "recover"
   |false=>match q with
    |.none=>K (.v .e7) d .none h
    |.done v=>K (.v .e7) d (.done v) h
    |.act v=>K (.v v) d (.done v) h
  |.fail w=>bad w
 |1=>shape P 9 (FZ eO o.type) λx=>gx (o9 P o (λy=>(g y).den) h x.den) (K x d q h)
 |_=>shape P 9 (FZ eO o.type) λx=>gX λan:J=>gx (wj P o (λy=>(g y).den) h x.den an) (K x d q an)
def F4(eO:Option qe)(o:Oper)(g:Operand->aH)(d:List bZ)(q:bL)(h:J)(K:qf)(b2:qg):c2:=match o.op with
 |.move x|.assign x=>(g x).mQ λs=>K s d q h
 |.unOp .not _ x=>match(g x).uD with
  |true=>(g x).mQ λs=>K (.bW s) d q h
  |false=>bad "not"
 |.binOp op t x y _=>(g x).mQ λu=>(g y).mQ λw=>match(match F0 op u w with|some s=>some s|none=>F3 P op t u w) with
  |some s=>K s d q h
  |none=>match UY u w with
   |true=>match dZ P h op t x y u.den w.den with
    |some v=>(l7 v).mQ λs=>K s d q h
    |none=>bad "nil"
   |false=>match(match eO with|none=>F1 op u w|some _=>none) with
    |some (p,v)=>gx p (K (.v v) d q h)
    |none=>rv P inR call eO o g d q h K b2
 |.extract x i=>match g x with
  |.fC l=>match uF i l with
   |some s=>s.mQ λs=>K s d q h
   |none=>bad "extract"
  |_=>rv P inR call eO o g d q h K b2
 |.indexAddr t x i=>match P.underlying t,g x,eI (g i).den with
  |some (.array m e),.v (.ptr b off),some n=>match dx P e with
   |some sz=>gx (n<m) (K (.v (.ptr b (off+n*sz))) d q h)
   |none=>bad "indexAddr"
  |some (.slice e),.v (.slice b off m c),some n=>match dx P e with
   |some sz=>gx (n<m) (K (.v (.ptr b (off+n*sz))) d q h)
   |none=>bad "indexAddr"
  |_,_,_=>bad "indexAddr of what"
 |.store t a x=>match(g a).den,dx P t with
  |.ptr b off,some n=>match Nat.beq (uJ (g x)).length n with
   |true=>(g x).mQ λs=>wC s (gX λgw:J=>gx (storeCells h b off (uJ s)=some gw) (K (.v (.aO [])) d q gw))
   |false=>bad "store size"
  |_,_=>bad "store"
 |.build t parts=>match(oz (parts.toList.map λp=>(p.1,g p.2))).any aH.F2 with
  |false=>rv P inR call eO o g d q h K b2
  |true=>match ev P t,P.underlying t with
   |some z,some (.struct b0)=>match b0.toList.all (λf=>(dx P f.type).isSome),uM (λi=>(b0[i]?).map λf=>(f.offset,P.cellsOf f.type)) (z.cells.map l7) (parts.toList.map λp=>(p.1,g p.2)),uL (oz (parts.toList.map λp=>(p.1,g p.2))) with
    |true,some cs,true=>uK (oz (parts.toList.map λp=>(p.1,g p.2))) (sN cs λcs=>K (.kI cs) d q h)
    |_,_,_=>bad "build"
   |_,_=>bad "build of what"
 |.buildSlice t len parts=>match(oz (parts.toList.map λp=>(p.1,g p.2))).any aH.F2 with
  |false=>rv P inR call eO o g d q h K b2
  |true=>Co P t len (parts.toList.map λp=>(p.1,g p.2)) λe cs=>K (.v (.slice h.n 0 len (.exact len))) d q (h.push (.cells (aH.b8 cs) e .own 0 0))
 |.box e x=>(g x).mQ λs=>wC s (K (.v (.ptr h.n 0)) d q (h.push (.cells (uJ s) e .own 0 0)))
 |.call c=>match c.callee with
  |.builtin .len=>match c.args.toList.map g,c.argTypes[0]? with
   |[.o a],some t=>gX λn:Nat=>gx (cl P h t a=some (.int .i64 (.ofNat n))) (K (.v (.int .i64 (.ofNat n))) d q h)
   |_,_=>rv P inR call eO o g d q h K b2
  |_=>rv P inR call eO o g d q h K b2
 |_=>rv P inR call eO o g d q h K b2
end
theorem aH.qh{s:aH}(h:s.uD=true):s.den=.bool s.k3:=by
 cases s with
 |v a=>cases a<;>first|rfl|cases h
 |o a=>cases h
 |kI l=>cases h
 |fC l=>cases h
 |jz=>rfl
 |kq=>rfl
 |lt i n=>rfl
 |le i n=>rfl
 |eq i n=>rfl
 |bW s=>rfl
theorem zn(a:I):(l7 a).den=a:=by
 unfold l7;split<;>rfl
theorem F5:∀(n:Nat) (l:List aH),(uF n l).map aH.den=nth n (aH.b8 l)
 |0,[]=>rfl
 |_+1,[]=>rfl
 |0,x::l=>rfl
 |n+1,x::l=>F5 n l
theorem LD(n:Nat)(l:List aH)(s:aH)(h:uF n l=some s):nth n (aH.b8 l)=some s.den:=by
 rw[<-F5,h];rfl
theorem LF(t:Nat):∀Γ:dn,(uE t Γ).map aH.den=ej t (c9 Γ)
 |[]=>rfl
 |(u,x)::l=>by
  simp only[uE,c9,ej]
  cases ae:Nat.beq t u with
  |true=>rfl
  |false=>exact LF t l
def hv(m:Nat)(l:List I)(G:Env):Acc->Option I
 |.env j=>match Nat.blt j m with
  |true=>nth (m-1-j) l
  |false=>none
 |.reg p=>ej p.num G
 |.val v=>some v
theorem wD(m:Nat)(env:List aH)(Γ:dn)(a:Acc):(mP m env Γ a).map aH.den=hv m (aH.b8 env) (c9 Γ) a:=by
 cases a with
 |env j=>
  simp only[mP,hv]
  cases Nat.blt j m with
  |true=>exact F5 _ _
  |false=>rfl
 |reg p=>exact LF _ _
 |val v=>simp only[mP,hv,Option.map_some,zn]
theorem wE{m:Nat}{l:List I}{G:Env}{r:a2}(hm:Mod r G){a:Acc}{v:I}(h:hv m l G a=some v):dI m l r a=v:=by
 cases a with
 |env j=>
  simp only[hv] at h
  split at h
  · simp only[dI,h,Option.getD_some]
  · cases h
 |reg p=>simp only[hv] at h;simp only[dI];rw[<-K_ p];exact hm _ _ h
 |val x=>cases h;rfl
theorem zo{m:Nat}{l:List I}{G:Env}{a:Acc}{v:I}(x:I)(h:hv m l G a=some v):hv (m+1) (x::l) G a=some v:=by
 cases a with
 |env j=>
  simp only[hv] at h⊢
  split at h
  · rename_i ae
    have aK:j<m:=by simpa using ae
    have ec:Nat.blt j (m+1)=true:=by simp;omega
    rw[ec]
    have:m+1-1-j=(m-1-j)+1:=by omega
    rw[this];exact h
  · cases h
 |reg p=>exact h
 |val x=>exact h
theorem LG(x:aH):∀(n:Nat) (l:List aH),(∀s,uF n l=some s->s.den=x.den)->aH.b8 (uG n x l)=aH.b8 l
 |0,[],_=>rfl
 |_+1,[],_=>rfl
 |0,s::l,h=>by simp only[uG,aH.b8,h s rfl]
 |n+1,s::l,h=>by simp only[uG,aH.b8];rw[LG x n l h]
theorem LH(x:aH):∀(n:Nat) (l:List aH),(uG n x l).length=l.length
 |0,[]=>rfl
 |_+1,[]=>rfl
 |0,s::l=>rfl
 |n+1,s::l=>by simp only[uG,List.length_cons,LH x n l]
theorem LI(t:Nat)(x:aH):∀Γ:dn,(∀s,uE t Γ=some s->s.den=x.den)->c9 (Cm t x Γ)=c9 Γ
 |[],_=>rfl
 |(u,s)::l,h=>by
  simp only[Cm]
  simp only[uE] at h
  cases ae:Nat.beq t u with
  |true=>rw[ae] at h;simp only[c9,h s rfl]
  |false=>rw[ae] at h;simp only[c9];rw[LI t x l h]
theorem wF{m:Nat}{env:List aH}{Γ:dn}{a:Acc}{s x:aH}(h:mP m env Γ a=some s)(e:s.den=x.den):aH.b8 (wA m a x env)=aH.b8 env/\c9 (uH a x Γ)=c9 Γ/\(wA m a x env).length=env.length:=by
 cases a with
 |env j=>
  simp only[mP] at h
  split at h
  · exact⟨LG x _ _ λbd hs=>by rw[h] at hs;cases hs;exact e,rfl,LH _ _ _⟩
  · cases h
 |reg p=>exact⟨rfl,LI _ _ _ λbd hs=>by rw[show uE p.num Γ=some s from h] at hs;cases hs;exact e,rfl⟩
 |val v=>exact⟨rfl,rfl,rfl⟩
theorem aH.mR{s:aH}{K:aH->c2}(h:(s.mQ K).p):(K s).p:=by cases s<;>exact h
theorem uN:∀{l:List aH} {K:List aH->c2},(sN l K).p->(K l).p
 |[],_,h=>h
 |s::l,K,h=>uN (l:=l) (aH.mR h)
theorem pb:∀{l:dn} {K:dn->c2},(oy l K).p->(K l).p
 |[],_,h=>h
 |(t,s)::l,K,h=>pb (l:=l) (aH.mR h)
theorem LJ{P:Program}:∀(n:Nat),(∀(s:kJ) (K:aH->c2),(shape P n s K).p->∃x,(K x).p)/\(∀(l:List kJ) (K:List aH->c2),(sO P n l K).p->∃x,(K x).p)
 |0=>⟨λs K h=>(by simp only[shape] at h;cases h),λl K h=>(by simp only[sO] at h;cases h)⟩
 |n+1=>by
  obtain⟨aa,ad⟩:=LJ (P:=P) n
  refine⟨λs K h=>?_,λl K h=>?_⟩
  · simp only[shape] at h
    cases s with
    |is v=>exact⟨_,h⟩
    |io v=>exact⟨_,h⟩
    |z k=>obtain⟨x,h⟩:=h;exact⟨_,h⟩
    |n k=>obtain⟨x,h⟩:=h;exact⟨_,h⟩
    |o=>obtain⟨x,h⟩:=h;exact⟨_,h⟩
    |p=>obtain⟨x,h⟩:=h;exact⟨_,h⟩
    |LB=>obtain⟨x,y,h⟩:=h;exact⟨_,h⟩
    |st=>obtain⟨x,h⟩:=h;exact⟨_,h⟩
    |b=>obtain⟨x,h⟩:=h;exact⟨_,h⟩
    |fx=>obtain⟨x,y,z,c,h⟩:=h;exact⟨_,h⟩
    |wB c=>obtain⟨x,z,h⟩:=h;exact⟨_,h⟩
    |fC l=>obtain⟨r,h⟩:=ad _ _ h;exact⟨_,h⟩
    |kI l=>obtain⟨r,h⟩:=ad _ _ h;exact⟨_,h⟩
    |LC t s=>obtain⟨r,h⟩:=aa _ _ h;exact⟨_,h⟩
    |fn f k=>obtain⟨x,h⟩:=h;exact⟨_,h⟩
    |ty t=>
     simp only at h
     split at h
     · obtain⟨x,h⟩:=h;exact⟨_,h⟩
     · obtain⟨x,h⟩:=h;exact⟨_,h⟩
     · obtain⟨x,h⟩:=h;exact⟨_,h⟩
     · obtain⟨x,h⟩:=h;exact⟨_,h⟩
     · obtain⟨r,h⟩:=ad _ _ h;exact⟨_,h⟩
     · obtain⟨r,h⟩:=ad _ _ h;exact⟨_,h⟩
     · exact⟨_,h⟩
     · obtain⟨x,h⟩:=h;exact⟨_,h⟩
     · exact⟨_,h⟩
  · simp only[sO] at h
    cases l with
    |nil=>exact⟨_,h⟩
    |cons s l=>
     obtain⟨x,h⟩:=aa _ _ h
     obtain⟨r,h⟩:=ad _ _ h
     exact⟨_,h⟩
theorem uO{P:Program}{n:Nat}{s:kJ}{K:aH->c2}(h:(shape P n s K).p):∃x,(K x).p:=(LJ n).1 s K h
theorem F6{p:Prop}{A B:c2}{eO:Option Bool}(h:(match eO with
  |none=>zm p (¬p) A B
  |some true=>gx p A
  |some false=>gx (¬p) B).p):(p/\A.p)\/(¬p/\B.p):=by
 cases eO with
 |none=>by_cases aQ:p
        · exact .inl ⟨aQ,h.1 aQ⟩
        · exact .inr ⟨aQ,h.2 aQ⟩
 |some b=>cases b with
  |true=>exact .inl h
  |false=>exact .inr h
theorem Cq:∀(s:aH) {eO:Option Bool} {A B:c2},(s.ig eO A B).p->s.uD=true/\((s.k3=true/\A.p)\/(s.k3=false/\B.p))
 |.jz,_,_,_,h=>⟨rfl,.inl ⟨rfl,h⟩⟩
 |.kq,_,_,_,h=>⟨rfl,.inr ⟨rfl,h⟩⟩
 |.lt i n,eO,A,B,h=>by
  refine⟨rfl,?_⟩
  rcases F6 (p:=i<n) h with⟨aa,ad⟩|⟨aa,ad⟩
  · exact .inl ⟨dT aa,ad⟩
  · exact .inr ⟨e1 aa,ad⟩
 |.le i n,eO,A,B,h=>by
  refine⟨rfl,?_⟩
  rcases F6 (p:=i<=n) h with⟨aa,ad⟩|⟨aa,ad⟩
  · exact .inl ⟨mO aa,ad⟩
  · exact .inr ⟨ox aa,ad⟩
 |.eq i n,eO,A,B,h=>by
  refine⟨rfl,?_⟩
  rcases F6 (p:=i=n) h with⟨aa,ad⟩|⟨aa,ad⟩
  · exact .inl ⟨nA aa,ad⟩
  · exact .inr ⟨jS aa,ad⟩
 |.bW s,eO,A,B,h=>by
  refine⟨rfl,?_⟩
  simp only[aH.ig] at h
  obtain⟨_,ad⟩:=Cq s h
  simp only[aH.k3]
  rcases ad with⟨e,k⟩|⟨e,k⟩
  · right;exact⟨by rw[e];rfl,k⟩
  · left;exact⟨by rw[e];rfl,k⟩
 |.v a,eO,A,B,h=>by
  cases a<;>simp only[aH.ig] at h<;>first|(cases h;done)|skip
  rename_i x
  refine⟨rfl,?_⟩
  simp only[aH.k3]
  cases x with
  |true=>left;refine⟨rfl,?_⟩;cases eO with
   |none=>exact h.1 rfl
   |some b=>cases b with
    |true=>exact h.2
    |false=>cases h.1
  |false=>right;refine⟨rfl,?_⟩;cases eO with
   |none=>exact h.2 rfl
   |some b=>cases b with
    |true=>cases h.1
    |false=>exact h.2
 |.o a,_,_,_,h=>by simp only[aH.ig] at h;cases h
 |.kI l,_,_,_,h=>by simp only[aH.ig] at h;cases h
 |.fC l,_,_,_,h=>by simp only[aH.ig] at h;cases h
section
variable {P:Program} {inR:Bool} {call:aP}
def iD(x:x2)(K:qf)(b2:qg):Prop:=(∃s d q h,x=.ok (aH.den s) d q h/\(K s d q h).p)\/∃v d q h,x=.ca v d q h/\(b2 v d q h).p
theorem iD.val{o:Oper}{g:Operand->I}{d:List bZ}{q:bL}{h an:J}{K:qf}{b2:qg}{s:aH}(e:cP P o g h=.val s.den an)(k:(K s d q an).p):iD (dV P inR call none o g d q h) K b2:=
 .inl ⟨s,d,q,an,by simp only[dV,eK,e],k⟩
theorem zp{K:c2}:∀(l:List aH),uL l=true->(uK l K).p->(aH.b8 l).all I.cO=true/\K.p
 |[],_,h=>⟨rfl,h⟩
 |x::l,aq,h=>by
  cases x with
  |o a=>
   obtain⟨aa,ad⟩:=h
   obtain⟨bJ,bQ⟩:=zp l aq ad
   exact⟨by simp only[aH.b8,List.all_cons,aH.den,aa,bJ,Bool.and_self],bQ⟩
  |_=>
   simp only[uL,Bool.and_eq_true] at aq
   simp only[uK] at h
   obtain⟨bJ,bQ⟩:=zp l aq.2 h
   exact⟨by simp only[aH.b8,List.all_cons,aq.1,bJ,Bool.and_self],bQ⟩
theorem F7{s:aH}{K:c2}(h:(wC s K).p):s.den.cells=uJ s/\(uJ s).all I.cO=true/\K.p:=by
 cases s with
 |o a=>
  obtain⟨aa,ad⟩:=h
  refine⟨?_,by simp[uJ,aa],ad⟩
  show a.cells=[a]
  cases a<;>first|rfl|cases aa
 |kI l=>
  simp only[wC] at h
  split at h
  · rename_i aq;exact⟨rfl,zp l aq h⟩
  · cases h
 |_=>
  simp only[wC] at h
  split at h
  · rename_i aq;exact⟨rfl,aq,h⟩
  · cases h
theorem l8:∀l:List aH,aH.b8 l=l.map aH.den
 |[]=>rfl
 |s::l=>by simp only[aH.b8,List.map_cons,l8 l]
theorem UZ{s:aH}(h:(aH.b8 (nC s)).all I.cO=true):s.den.cells=aH.b8 (nC s)/\s.den≠ .bad:=by
 have one:∀a:I,a.cO=true->a.cells=[a]/\a≠ .bad:=λa aL=>by cases a<;>first|(cases aL;done)|exact⟨rfl,λh=>by cases h⟩
 have key:nC s=[s]->s.den.cells=aH.b8 (nC s)/\s.den≠ .bad:=λe=>by
  rw[e] at h⊢
  simp only[aH.b8,List.all_cons,List.all_nil,Bool.and_true] at h⊢
  exact one _ h
 cases s with
 |kI l=>exact⟨rfl,nofun⟩
 |v a=>
  cases a with
  |agg cs=>
   refine⟨?_,nofun⟩
   show cs=aH.b8 (cs.map l7)
   rw[l8,List.map_map]
   have:aH.den∘l7=id:=funext zn
   rw[this,List.map_id]
  |_=>exact key rfl
 |_=>exact key rfl
theorem U0{place:Nat->Option (Nat×Nat)}{cells:List I}{i:Nat}{v:I}{rest:List (Nat×I)}{off size:Nat}(aD:v≠ .bad)(aQ:place i=some (off,size))(ae:(Nat.beq v.cells.length size&&Nat.ble (off+size) cells.length)=true){cs:List I}(ag:fS off v.cells cells=some cs):kh place cells ((i,v)::rest)=kh place cs rest:=by
 cases v<;>first|exact absurd rfl aD|simp only[kh,aQ,ae,ag]
theorem F8{place:Nat->Option (Nat×Nat)}:∀(ps:List (Nat×aH)) (cells cs:List aH),uM place cells ps=some cs->(aH.b8 (oz ps)).all I.cO=true->kh place (aH.b8 cells) (ps.map λp=>(p.1,p.2.den))=some (aH.b8 cs)
 |[],cells,cs,h,_=>by cases h;rfl
 |(i,s)::rest,cells,cs,h,aL=>by
  simp only[oz,l8,List.map_append,List.all_append,Bool.and_eq_true] at aL
  rw[<-l8,<-l8] at aL
  obtain⟨bJ,bQ⟩:=UZ aL.1
  simp only[uM] at h
  split at h
  · cases h
  · rename_i off size aQ
    split at h
    · rename_i ae
      have aw:(aH.b8 (nC s)).length=(nC s).length:=by rw[l8,List.length_map]
      have ag:(aH.b8 cells).length=cells.length:=by rw[l8,List.length_map]
      have ec:=ae
      simp only[Bool.and_eq_true,Nat.ble_eq] at ec
      have bA:=Nat.eq_of_beq_eq_true ec.1
      have yf:fS off s.den.cells (aH.b8 cells)=some (aH.b8 (cells.take off++nC s++(cells.drop off).drop (nC s).length)):=by
       have:=zi ((aH.b8 cells).take off) (aH.b8 (nC s)) ((aH.b8 cells).drop off) aL.1 (by simp;omega)
       rw[List.length_take,Nat.min_eq_left (by omega),List.take_append_drop] at this
       rw[bJ,this,aw]
       simp only[l8,List.map_append,List.map_take,List.map_drop,List.append_assoc]
      rw[List.map_cons,U0 bQ aQ (by rw[bJ,aw,ag];exact ae) yf]
      exact F8 rest _ cs h aL.2
    · cases h
theorem LK{place:Nat->Option (Nat×Nat)}:∀(ps:List (Nat×aH)) (cells cs:List aH),uM place cells ps=some cs->(aH.b8 cells).all I.cO=true->(aH.b8 (oz ps)).all I.cO=true->(aH.b8 cs).all I.cO=true
 |[],cells,cs,h,ag,_=>by cases h;exact ag
 |(i,s)::rest,cells,cs,h,ag,aL=>by
  simp only[oz,l8,List.map_append,List.all_append,Bool.and_eq_true] at aL
  rw[<-l8,<-l8] at aL
  simp only[uM] at h
  split at h
  · cases h
  · split at h
    · refine LK rest _ cs h ?_ aL.2
      rw[l8] at ag⊢
      rw[List.all_eq_true] at ag⊢
      have aa:=aL.1
      rw[l8,List.all_eq_true] at aa
      intro x ab
      rw[List.map_append,List.map_append,List.mem_append,List.mem_append] at ab
      rcases ab with(ab|ab)|ab
      · rw[List.map_take] at ab;exact ag x (List.mem_of_mem_take ab)
      · exact aa x ab
      · rw[List.map_drop,List.map_drop] at ab;exact ag x (List.mem_of_mem_drop (List.mem_of_mem_drop ab))
    · cases h
theorem LL{t:TypeId}{len:Nat}{ps:List (Nat×aH)}{K:TypeId->List aH->c2}(h:(Co P t len ps K).p):∃e sz z cs,P.underlying t=some (.slice e)/\dx P e=some sz/\ev P e=some z/\(Nat.ble (len*sz) 16777216&&Nat.beq z.cells.length sz)=true/\kh (λi=>some (i*sz,sz)) (if len*sz=0 then[] else fs len z.cells) (ps.map λp=>(p.1,p.2.den))=some (aH.b8 cs)/\(aH.b8 cs).all I.cO=true/\(K e cs).p:=by
 unfold Co at h
 split at h
 · rename_i e hu
   split at h
   · rename_i sz z hs aW
     split at h
     · rename_i cs aa ad av aG
       obtain⟨b6,k⟩:=zp _ aG h
       have dc:aH.b8 ((if len*sz=0 then[] else fs len z.cells).map l7)=(if len*sz=0 then[] else fs len z.cells):=by rw[l8,List.map_map,show aH.den∘l7=id from funext zn,List.map_id]
       have hf:=F8 _ _ _ av b6
       have ag:=LK _ _ _ av (by rw[dc];exact ad) b6
       rw[dc] at hf
       exact⟨e,sz,z,cs,hu,hs,aW,aa,hf,ag,uN k⟩
     · cases h
   · cases h
 · cases h
theorem LM{g:Operand->aH}(parts:Array (Nat×Operand)):(parts.toList.map λp=>(p.1,g p.2)).map (λp=>(p.1,p.2.den))=parts.toList.map λp=>(p.1,(g p.2).den):=by
 rw[List.map_map];rfl
theorem LN{eO:Option qe}{t:TypeId}{f:eJ}{args:List I}{d:List bZ}{q:bL}{h:J}{K:qf}{b2:qg}(ab:(Cp P call eO t f args d q h K b2).p):iD (x3 d q (call f args h)) K b2:=by
 unfold Cp at ab
 split at ab
 · obtain⟨x,g,e,k⟩:=uO ab
   rw[e];exact .inr ⟨_,_,_,_,rfl,k⟩
 · rcases ab with ab|ab
   · obtain⟨x,g,e,k⟩:=uO ab
     rw[e];exact .inl ⟨_,_,_,_,rfl,k⟩
   · obtain⟨x,g,e,k⟩:=uO ab
     rw[e];exact .inr ⟨_,_,_,_,rfl,k⟩
 · obtain⟨x,g,e,k⟩:=uO ab
   rw[e];exact .inl ⟨_,_,_,_,rfl,k⟩
theorem uP{eO:Option qe}{o:Oper}{g:Operand->aH}{d:List bZ}{q:bL}{h:J}{K:qf}{b2:qg}(ab:(rv P inR call eO o g d q h K b2).p):iD (dV P inR call none o (λx=>(g x).den) d q h) K b2:=by
 unfold rv at ab
 split at ab
 · split at ab
   · rename_i v an he
     split at ab
     · exact iD.val (s:=.o v) he ab
     · exact iD.val (s:=.v v) he ab
   · rename_i v an he
     exact .inr ⟨v,d,q,an,by simp only[dV,eK,he],ab⟩
   · rename_i f args an he
     have:=LN ab
     simpa only[dV,eK,he] using this
   · rename_i l args an he
     have:=LN ab
     simpa only[dV,eK,he] using this
   · rename_i x he
     split at ab
     · cases ab
     · exact .inl ⟨.v (.aO []),_,_,_,by simp only[dV,eK,he];rfl,ab⟩
   · rename_i he
     split at ab
     · cases ab
     · split at ab
       · exact .inl ⟨.v .e7,_,_,_,by simp only[dV,eK,he];rfl,ab⟩
       · exact .inl ⟨.v .e7,_,_,_,by simp only[dV,eK,he];rfl,ab⟩
       · rename_i v
         exact .inl ⟨.v v,_,_,_,by simp only[dV,eK,he];rfl,ab⟩
   · cases ab
 · obtain⟨x,c,k⟩:=uO ab
   exact iD.val (uw c) k
 · obtain⟨x,an,c,k⟩:=uO ab
   exact iD.val (FI c) k
theorem U1{op:BinOp}{x y s:aH}(ab:F0 op x y=some s)(h:J)(t:TypeId)(a b:Operand):dZ P h op t a b x.den y.den=some s.den:=by
 unfold F0 at ab
 split at ab
 · rename_i k cF dh hT
   split at ab
   · rename_i aq
     obtain rfl:k=dh:=of_decide_eq_true aq
     split at ab<;>first|(cases ab;done)|(cases ab;simp only[aH.den,dZ,arith,if_true,aH.k3])
   · cases ab
 · cases ab
theorem U2{op:BinOp}{x y s:aH}{t:TypeId}(ab:F3 P op t x y=some s)(h:J)(a b:Operand):dZ P h op t a b x.den y.den=some s.den:=by
 unfold F3 at ab
 split at ab
 · rename_i ae hu
   rw[Bool.and_eq_true] at ae
   cases ab
   rw[aH.qh ae.1,aH.qh ae.2]
   simp only[dZ,rZ,if_true,gg,hu,aH.den,eS]
 · rename_i ae hu
   rw[Bool.and_eq_true] at ae
   cases ab
   rw[aH.qh ae.1,aH.qh ae.2]
   simp only[dZ,rZ,if_true,gg,hu,aH.den,aH.k3,eS]
 · cases ab
theorem U3{op:BinOp}{x y:aH}{p:Prop}{v:I}(ab:F1 op x y=some (p,v))(aQ:p)(h:J)(t:TypeId)(a b:Operand):dZ P h op t a b x.den y.den=some v:=by
 unfold F1 at ab
 split at ab
 · rename_i k cF dh hT
   split at ab
   · rename_i aq;cases ab;obtain rfl:=of_decide_eq_true aq
     simp only[aH.den,dZ,if_true];exact UK aQ
   · rename_i aq;cases ab;obtain rfl:=of_decide_eq_true aq
     simp only[aH.den,dZ,if_true];exact wy aQ.1 aQ.2
   · rename_i aq;cases ab;obtain rfl:=of_decide_eq_true aq
     simp only[aH.den,dZ,if_true];exact UL aQ
   · rename_i aq;cases ab;obtain rfl:=of_decide_eq_true aq
     simp only[aH.den,dZ,if_true];exact UN aQ
   · rename_i aq;cases ab;obtain rfl:=of_decide_eq_true aq
     simp only[aH.den,dZ,if_true];exact UO aQ.1 aQ.2
   · cases ab
 · split at ab
   · cases ab
     simp only[aH.den,dZ];exact hX aQ
   · cases ab
 · cases ab
theorem U4{eO:Option qe}{o:Oper}{g:Operand->aH}{d:List bZ}{q:bL}{h:J}{K:qf}{b2:qg}(ab:(F4 P inR call eO o g d q h K b2).p):iD (dV P inR call none o (λx=>(g x).den) d q h) K b2:=by
 unfold F4 at ab
 split at ab
 · rename_i x aY
   exact iD.val (s:=g x) (by simp only[cP,aY]) (aH.mR ab)
 · rename_i x aY
   exact iD.val (s:=g x) (by simp only[cP,aY]) (aH.mR ab)
 · rename_i t x aY
   split at ab
   · rename_i ae
     exact iD.val (s:=.bW (g x)) (by simp only[cP,aY,aH.qh ae];rfl) (aH.mR ab)
   · cases ab
 · rename_i op t x y yt aY
   replace ab:=aH.mR (aH.mR ab)
   have key:∀{s:aH},dZ P h op t x y (g x).den (g y).den=some s.den->(K s d q h).p->iD (dV P inR call none o (λx=>(g x).den) d q h) K b2:=λ{s} e k=>iD.val (s:=s) (by simp only[cP,aY,e,fT]) k
   split at ab
   · rename_i s hs
     split at hs
     · rename_i bd dw;cases hs;exact key (U1 dw h t x y) ab
     · exact key (U2 hs h x y) ab
   · split at ab
     · split at ab
       · rename_i v aD;exact key (s:=l7 v) (by rw[zn];exact aD) (aH.mR ab)
       · cases ab
     · split at ab
       · rename_i p v aQ
         cases eO with
         |none=>exact key (s:=.v v) (U3 aQ ab.1 h t x y) ab.2
         |some _=>cases aQ
       · exact uP ab
 · rename_i x i aY
   split at ab
   · rename_i l aw
     split at ab
     · rename_i s hs
       exact iD.val (s:=s) (by simp only[cP,aY,aw,aH.den,LD _ _ _ hs,fT]) (aH.mR ab)
     · cases ab
   · exact uP ab
 · rename_i t x i aY
   split at ab
   · rename_i m e b off n hu e_ af
     split at ab
     · rename_i sz aW
       exact iD.val (s:=.v (.ptr b (off+n*sz))) (by simp only[cP,aY,hu,e_,aH.den,af,aW,if_pos ab.1]) ab.2
     · cases ab
   · rename_i e b off m c n hu e_ af
     split at ab
     · rename_i sz aW
       exact iD.val (s:=.v (.ptr b (off+n*sz))) (by simp only[cP,aY,hu,e_,aH.den,af,aW,if_pos ab.1]) ab.2
     · cases ab
   · cases ab
 · rename_i t a x aY
   split at ab
   · rename_i b off n uQ aW
     split at ab
     · rename_i aw
       obtain⟨aA,ax,gw,bD,k⟩:=F7 (aH.mR ab)
       have ag:wj P o (λy=>(g y).den) h (.aO []) gw:=by
        unfold wj
        rw[aY]
        simp only[uQ]
        rw[aA]
        exact⟨by rw[aW,Nat.eq_of_beq_eq_true aw],bD,trivial⟩
       exact iD.val (s:=.v (.aO [])) (FI ag) k
     · cases ab
   · cases ab
 · rename_i t parts aY
   split at ab
   · exact uP ab
   · split at ab
     · rename_i z b0 aW hu
       split at ab
       · rename_i cs aa ad av
         obtain⟨b6,k⟩:=zp _ av ab
         have hf:=F8 _ _ _ ad b6
         rw[show aH.b8 (z.cells.map l7)=z.cells by rw[l8,List.map_map,show aH.den∘l7=id from funext zn,List.map_id],List.map_map] at hf
         exact iD.val (s:=.kI cs) (by simp only[cP,aY,aW,hu,aa];exact by rw[show(parts.toList.map λp=>(p.1,(g p.2).den))=parts.toList.map ((λp=>(p.1,aH.den p.2))∘ λp=>(p.1,g p.2)) from rfl,hf];rfl) (uN k)
       · cases ab
     · cases ab
 · rename_i t len parts aY
   split at ab
   · exact uP ab
   · obtain⟨e,sz,z,cs,hu,hs,aW,aa,hf,ag,k⟩:=LL ab
     rw[LM] at hf
     exact iD.val (s:=.v (.slice h.n 0 len (.exact len))) (by simp only[cP,aY,hu,hs,aW,aa,hf,newRow,ag];rfl) k
 · rename_i e x aY
   obtain⟨aA,ax,k⟩:=F7 (aH.mR ab)
   exact iD.val (s:=.v (.ptr h.n 0)) (by simp only[cP,aY,newRow,aA,ax];rfl) k
 · rename_i c aY
   split at ab
   · rename_i jP
     split at ab
     · rename_i a t aL bc
       obtain⟨n,e,k⟩:=ab
       have hW:c.args.toList.map (λy=>(g y).den)=[a]:=by
        have:(c.args.toList.map g).map aH.den=[a]:=by rw[aL];rfl
        rw[List.map_map] at this;exact this
       have ag:o9 P o (λy=>(g y).den) h (.int .i64 (.ofNat n)):=by
        unfold o9
        rw[aY]
        simp only[jP,hW,bc]
        exact e
       exact iD.val (s:=.v (.int .i64 (.ofNat n))) (uw ag) k
     · exact uP ab
   · exact uP ab
 · exact uP ab
end
def keyOf(iM i:Nat)(o:Oper):Nat:=match o.dst with
 |some t=>t
 |none=>3000+50*iM+i
section
variable (P:Program) (need:Nat)
def lC(m:Nat)(env:List aH)(Γ:dn)(loc:List (Nat×Acc))(x:Operand):aH:=match mP m env Γ (cR P need loc x) with
 |some s=>s
 |none=>.v .bad
def Cr(m:Nat)(env:List aH)(Γ:dn)(loc:List (Nat×Acc))(o:Oper):Bool:=o.op.operands.toList.all λx=>(mP m env Γ (cR P need loc x)).isSome
def Cs(eO:Option Bool)(gd:Option (Acc×Bool))(m:Nat)(env:List aH)(Γ:dn)(wG wH:List aH->dn->c2):c2:=match gd with
 |none=>wG env Γ
 |some (a,b)=>match mP m env Γ a with
  |none=>bad "guard"
  |some s=>match s with
   |.v (.aO [])=>wH env Γ
   |s=>s.ig eO (sN (wA m a .jz env) λenv=>oy (uH a .jz Γ) λΓ=>(match b with|true=>wG env Γ|false=>wH env Γ)) (sN (wA m a .kq env) λenv=>oy (uH a .kq Γ) λΓ=>(match b with|true=>wH env Γ|false=>wG env Γ))
variable (inR:Bool) (call:aP)
def zq(pl:k4)(key m:Nat)(env:List aH)(Γ:dn)(loc:List (Nat×Acc))(o:Oper)(d:List bZ)(q:bL)(h:J)(K:List aH->dn->qf)(b2:dn->qg):c2:=match o.op with
 |.pick c a b=>match mP m env Γ (cR P need loc c) with
  |none=>bad "pick"
  |some s=>s.ig (Cn (uI (2000+key) pl)) (sN (wA m (cR P need loc c) .jz env) λfr=>oy (uH (cR P need loc c) .jz Γ) λcx=>(lC P need m env Γ loc a).mQ λx=>K fr cx x d q h) (sN (wA m (cR P need loc c) .kq env) λfr=>oy (uH (cR P need loc c) .kq Γ) λcx=>(lC P need m env Γ loc b).mQ λx=>K fr cx x d q h)
 |_=>F4 P inR call (uI key pl) o (lC P need m env Γ loc) d q h (K env Γ) (b2 Γ)
def zr(pl:k4)(iM:Nat):List Step->List aH->dn->List bZ->bL->J->(List aH->dn->List bZ->bL->J->c2)->(I->dn->List bZ->bL->J->c2)->c2
 |[],env,Γ,d,q,h,K,_=>K env Γ d q h
 |s::rest,env,Γ,d,q,h,K,b2=>match Cr P need s.m env Γ s.loc s.o with
  |false=>bad ("an operand " ++s.o.pos)
  |true=>Cs (Cn (uI (1000+keyOf iM s.m s.o) pl)) s.guard s.m env Γ
   (λenv Γ=>zq P need inR call pl (keyOf iM s.m s.o) s.m env Γ s.loc s.o d q h (λenv Γ v d q h=>zr pl iM rest (v::env) Γ d q h K b2) (λΓ v d q h=>b2 v Γ d q h))
   (λenv Γ=>zr pl iM rest (.v (.aO [])::env) Γ d q h K b2)
def uR(t:Nat):dn->dn
 |[]=>[]
 |(u,s)::l=>match Nat.beq t u with
  |true=>uR t l
  |false=>(u,s)::uR t l
def uS(m:Nat)(env:List aH)(gM:dn):List (Nat×Acc)->dn->dn
 |[],Γ=>Γ
 |(t,a)::l,Γ=>match Nat.testBit need t with
  |true=>match mP m env gM a with
   |some s=>(t,s)::uR t (uS m env gM l Γ)
   |none=>uR t (uS m env gM l Γ)
  |false=>uS m env gM l Γ
def zs:List (Nat×Acc)->dn->dn
 |[],Γ=>Γ
 |(t,_)::l,Γ=>uR t (zs l Γ)
abbrev nD:=List (Nat×Nat×J×Nat)
def iN:nD->oq
 |[]=>[]
 |(e,m,h,_)::l=>(e,m,h)::iN l
def Ct(o:Oper)(g:Operand->aH):Bool:=match o.op with
 |.move _|.assign _|.pick .. |.build .. |.nilCheck _|.makeInterface .. |.makeFunc .. |.fieldAddr .. |.field .. |.indexAddr .. |.index .. |.extract .. |.typeAssert .. =>true
 |.unOp .. =>true
 |.binOp _ _ x y _=>match g x,g y with
  |.v (.int _ _),.v (.int _ _)=>true
  |.v (.str _),.v (.str _)=>true
  |x,y=>x.uD&&y.uD
 |.call c=>match c.callee with
  |.builtin .len=>match c.argTypes[0]? with
   |some t=>match P.underlying t with
    |some (.slice _)=>true
    |some .string=>true
    |_=>false
   |none=>false
  |_=>false
 |_=>false
def wI:List aH->c2->c2
 |[],K=>K
 |.o a::l,K=>gx (a.sound=true) (wI l K)
 |s::l,K=>match s.den.sound with
  |true=>wI l K
  |false=>bad "sound"
def F9:aH->c2->c2
 |.o a,K=>gx (a.sound=true) K
 |.jz,K|.kq,K|.lt _ _,K|.le _ _,K|.eq _ _,K|.bW _,K=>K
 |.v a,K=>match a.sound with
  |true=>K
  |false=>bad "sound"
 |.kI l,K=>wI l K
 |.fC l,K=>match j6 (aH.b8 l) with
  |true=>K
  |false=>bad "sound"
def wJ(s:DStep)(hc:Nat):Option Nat->J->Nat->nD->List (Option J)
 |d_,h,cE,bj=>
  (match rp s d_ (iN bj) with
   |true=>[]
   |false=>[match Nat.beq cE hc with|true=>none|false=>some h])++
  (match bj with
   |[]=>[]
   |(e,_,an,lD)::rest=>wJ s hc (some e) an lD rest)
def wK(o:Oper)(g:Operand->I)(v:I)(sP:Bool):List (Option J)->c2->c2
 |[],K=>K
 |none::l,K=>wK o g v sP l K
 |some h::l,K=>match sP with
  |true=>wK o g v sP l K
  |false=>gx (o9 P o g h v) (wK o g v sP l K)
def l9(ops:Array Oper)(n:Nat)(env:List aH)(dP:List Nat)(Γ:dn)(last:Option Nat)(h:J)(cE:Nat)(bj:nD):List DStep->c2->c2
 |[],K=>K
 |s::rest,K=>match Nat.blt s.i n,kindOf P s.o.op with
  |true,.pure=>match uF (n-1-s.i) env,nth (n-1-s.i) dP with
   |some v,some hc=>match wJ s hc last h cE bj with
    |[]=>l9 ops n env dP Γ last h cE bj rest K
    |l=>match v with
     |.v (.aO [])=>match j0 P need ops s.loc s.o with
      |some (a,b)=>match mP n env Γ a with
       |some (.v (.aO []))=>l9 ops n env dP Γ last h cE bj rest K
       |some .jz=>match b with
        |false=>l9 ops n env dP Γ last h cE bj rest K
        |true=>bad "look"
       |some .kq=>match b with
        |true=>l9 ops n env dP Γ last h cE bj rest K
        |false=>bad "look"
       |_=>bad "look"
      |none=>bad "look"
     |v=>F9 v (wK P s.o (λx=>(lC P need n env Γ s.loc x).den) v.den (Ct P s.o (lC P need n env Γ s.loc)) l (l9 ops n env dP Γ last h cE bj rest K))
   |_,_=>bad "look"
  |_,_=>l9 ops n env dP Γ last h cE bj rest K
def F_(op:Op)(g:Operand->aH)(b:Nat)(K:aH->dr->c2):c2:=match op with
 |.box e x=>(g x).mQ λs=>wC s (K (.v (.ptr b 0)) (.cells (uJ s) e .own 0 0))
 |.makeSlice t l c=>match eI (g l).den with
  |some oZ=>gX λz:dr=>gx (K5 P t (g l).den (g c).den b=some (.slice b 0 oZ (match eI (g c).den with|some c'=>.exact c'|none=>.dead),z)) (K (.v (.slice b 0 oZ (match eI (g c).den with|some c'=>.exact c'|none=>.dead))) z)
  |none=>bad "makeSlice"
 |.buildSlice t len parts=>match(oz (parts.toList.map λp=>(p.1,g p.2))).any aH.F2 with
  |true=>Co P t len (parts.toList.map λp=>(p.1,g p.2)) λe cs=>K (.v (.slice b 0 len (.exact len))) (.cells (aH.b8 cs) e .own 0 0)
  |false=>match kC P (.buildSlice t len parts) (λx=>(g x).den) b with
   |some (v,o)=>K (.v v) o
   |none=>bad "alloc"
 |op=>match kC P op (λx=>(g x).den) b with
  |some (v,o)=>K (.v v) o
  |none=>bad "alloc"
abbrev sQ:=List aH->List Nat->dn->List bZ->bL->J->Nat->nD->c2
def sR(pl:k4)(iM:Nat)(ops:Array Oper)(cJ:Nat):List DStep->List aH->List Nat->dn->List bZ->bL->J->Nat->nD->sQ->(I->sQ)->c2
 |[],env,dP,Γ,d,q,h,cE,bj,K,_=>K env dP Γ d q h cE bj
 |s::rest,env,dP,Γ,d,q,h,cE,bj,K,b2=>match Cr P need s.i env Γ s.loc s.o with
  |false=>bad ("an operand " ++s.o.pos)
  |true=>Cs (Cn (uI (1000+keyOf iM s.i s.o) pl)) (j0 P need ops s.loc s.o) s.i env Γ
   (λenv Γ=>match kindOf P s.o.op with
    |.alloc=>F_ P s.o.op (lC P need s.i env Γ s.loc) (cJ+s.i) λv o=>sR pl iM ops cJ rest (v::env) (cE::dP) Γ d q (h.set (cJ+s.i) (some o)) (cE+1) bj K b2
    |.pure=>zq P need inR call pl (keyOf iM s.i s.o) s.i env Γ s.loc s.o d q h (λenv Γ v _ _ _=>sR pl iM ops cJ rest (v::env) (cE::dP) Γ d q h cE bj K b2) (λ_ _ _ _ _=>bad "a panic")
    |.ew=>match ur s (iN bj) with
     |false=>bad "order"
     |true=>zq P need inR call pl (keyOf iM s.i s.o) s.i env Γ s.loc s.o d q h (λenv Γ v bh bn an=>sR pl iM ops cJ rest (v::env) (cE::dP) Γ bh bn an (cE+1) ((s.i,s.e8,h,cE)::bj) K b2)
      (λΓ v bh bn an=>match rest.all (λbd=>Nat.testBit bd.e8 s.i) with
       |true=>b2 v env dP Γ bh bn an (cE+1) ((s.i,s.e8,h,cE)::bj)
       |false=>bad "panic"))
   (λenv Γ=>match kindOf P s.o.op with
    |.ew=>match ur s (iN bj) with
     |false=>bad "order"
     |true=>sR pl iM ops cJ rest (.v (.aO [])::env) (cE::dP) Γ d q h cE ((s.i,s.e8,h,cE)::bj) K b2
    |_=>sR pl iM ops cJ rest (.v (.aO [])::env) (cE::dP) Γ d q h cE bj K b2)
end
section
variable {P:Program} {need:Nat} {inR:Bool} {call:aP}
theorem Ga{m:Nat}{env:List aH}{Γ:dn}{loc:List (Nat×Acc)}{x:Operand}:(lC P need m env Γ loc x).den=(hv m (aH.b8 env) (c9 Γ) (cR P need loc x)).getD .bad:=by
 rw[<-wD]
 unfold lC
 split<;>rename_i h<;>rw[h]<;>rfl
theorem LO{m:Nat}{env:List aH}{Γ:dn}{loc:List (Nat×Acc)}{o:Oper}(h:Cr P need m env Γ loc o=true):∀x∈o.op.operands,(hv m (aH.b8 env) (c9 Γ) (cR P need loc x)).isSome=true:=by
 intro x ab
 unfold Cr at h
 rw[List.all_eq_true] at h
 have:=h x (by simpa using ab)
 rw[<-wD,Option.isSome_map];exact this
theorem Gb{r:a2}{G:Env}(hm:Mod r G){m:Nat}{l:List I}{loc:List (Nat×Acc)}{o:Oper}(h:∀x∈o.op.operands,(hv m l G (cR P need loc x)).isSome=true):∀x∈o.op.operands,dI m l r (cR P need loc x)=(hv m l G (cR P need loc x)).getD .bad:=by
 intro x ab
 obtain⟨v,aD⟩:=Option.isSome_iff_exists.1 (h x ab)
 rw[wE hm aD,aD];rfl
def pc(m:Nat)(l:List I)(G:Env)(gd:Option (Acc×Bool))(W:Bool):Prop:=match gd with
 |none=>W=true
 |some (a,b)=>∃lE,hv m l G a=some lE/\eK (some (lE,b))=some W
theorem pc.ok{m:Nat}{l:List I}{G:Env}{gd:Option (Acc×Bool)}{W:Bool}(h:pc m l G gd W){r:a2}(hm:Mod r G):eK (gd.map λx=>(dI m l r x.1,x.2))=some W:=by
 cases gd with
 |none=>cases h;rfl
 |some x=>
  obtain⟨lE,aa,ad⟩:=h
  simp only[Option.map_some,wE hm aa,ad]
theorem pc.more{m:Nat}{l:List I}{G:Env}{gd:Option (Acc×Bool)}{W:Bool}(h:pc m l G gd W)(x:I):pc (m+1) (x::l) G gd W:=by
 cases gd with
 |none=>exact h
 |some y=>
  obtain⟨lE,aa,ad⟩:=h
  exact⟨lE,zo x aa,ad⟩
theorem LP{eO:Option Bool}{gd:Option (Acc×Bool)}{m:Nat}{env:List aH}{Γ:dn}{wG wH:List aH->dn->c2}(h:(Cs eO gd m env Γ wG wH).p):
  ∃fr cx,aH.b8 fr=aH.b8 env/\c9 cx=c9 Γ/\fr.length=env.length/\(((wG fr cx).p/\pc m (aH.b8 env) (c9 Γ) gd true)\/((wH fr cx).p/\pc m (aH.b8 env) (c9 Γ) gd false)):=by
 unfold Cs at h
 split at h
 · exact⟨env,Γ,rfl,rfl,rfl,.inl ⟨h,rfl⟩⟩
 · rename_i a b
   split at h
   · cases h
   · rename_i s hs
     have kn:hv m (aH.b8 env) (c9 Γ) a=some s.den:=by rw[<-wD,hs];rfl
     split at h
     · exact⟨env,Γ,rfl,rfl,rfl,.inr ⟨h,_,kn,rfl⟩⟩
     · obtain⟨ae,ab⟩:=Cq _ h
       have ao:=aH.qh ae
       rcases ab with⟨bc,aq⟩|⟨bc,aq⟩
       · rw[bc] at ao
         obtain⟨aA,ax,bD⟩:=wF (x:=.jz) hs ao
         refine⟨_,_,aA,ax,bD,?_⟩
         have aq:=pb (uN aq)
         cases b with
         |true=>exact .inl ⟨aq,_,kn,by rw[ao];rfl⟩
         |false=>exact .inr ⟨aq,_,kn,by rw[ao];rfl⟩
       · rw[bc] at ao
         obtain⟨aA,ax,bD⟩:=wF (x:=.kq) hs ao
         refine⟨_,_,aA,ax,bD,?_⟩
         have aq:=pb (uN aq)
         cases b with
         |true=>exact .inr ⟨aq,_,kn,by rw[ao];rfl⟩
         |false=>exact .inl ⟨aq,_,kn,by rw[ao];rfl⟩
theorem Gc{pl:k4}{key m:Nat}{env:List aH}{Γ:dn}{loc:List (Nat×Acc)}{o:Oper}{d:List bZ}{q:bL}{h:J}{K:List aH->dn->qf}{b2:dn->qg}(ab:(zq P need inR call pl key m env Γ loc o d q h K b2).p):
  ∃fr cx,aH.b8 fr=aH.b8 env/\c9 cx=c9 Γ/\fr.length=env.length/\iD (dV P inR call none o (λx=>(hv m (aH.b8 env) (c9 Γ) (cR P need loc x)).getD .bad) d q h) (K fr cx) (b2 cx):=by
 have al:(λx=>(hv m (aH.b8 env) (c9 Γ) (cR P need loc x)).getD .bad)=λx=>(lC P need m env Γ loc x).den:=funext λx=>Ga.symm
 unfold zq at ab
 split at ab
 · rename_i c a b aY
   split at ab
   · cases ab
   · rename_i s hs
     obtain⟨ae,aU⟩:=Cq _ ab
     have ao:=aH.qh ae
     have Cc:(lC P need m env Γ loc c).den=s.den:=by unfold lC;rw[hs]
     rw[al]
     rcases aU with⟨bc,aq⟩|⟨bc,aq⟩
     · rw[bc] at ao
       obtain⟨aA,ax,bD⟩:=wF (x:=.jz) hs ao
       exact⟨_,_,aA,ax,bD,iD.val (s:=lC P need m env Γ loc a) (by simp only[cP,aY,Cc,ao]) (aH.mR (pb (uN aq)))⟩
     · rw[bc] at ao
       obtain⟨aA,ax,bD⟩:=wF (x:=.kq) hs ao
       exact⟨_,_,aA,ax,bD,iD.val (s:=lC P need m env Γ loc b) (by simp only[cP,aY,Cc,ao]) (aH.mR (pb (uN aq)))⟩
 · rw[al]
   exact⟨env,Γ,rfl,rfl,rfl,U4 ab⟩
theorem Gd{r:a2}{s:Step}{rest:List Step}{env:List I}{d:List bZ}{q:bL}{h:J}:iG P need inR call r (s::rest) env d q h=match dV P inR call (s.guard.map λx=>(dI s.m env r x.1,x.2)) s.o (λx=>dI s.m env r (cR P need s.loc x)) d q h with
  |.ok v bh bn an=>iG P need inR call r rest (v::env) bh bn an
  |.ca v bh bn an=>.ca v bh bn an
  |.fail w=>.fail w:=by
 obtain⟨gd,o,loc,m⟩:=s
 cases gd<;>rfl
theorem Ge{pl:k4}{iM:Nat}:∀(l:List Step) (env:List aH) (Γ:dn) (d:List bZ) (q:bL) (h:J) {K:List aH->dn->List bZ->bL->J->c2} {b2:I->dn->List bZ->bL->J->c2},(zr P need inR call pl iM l env Γ d q h K b2).p->
  (∃fr cx bh bn an,(∀r,Mod r (c9 Γ)->iG P need inR call r l (aH.b8 env) d q h=.ok (aH.b8 fr) bh bn an)/\c9 cx=c9 Γ/\(K fr cx bh bn an).p)\/∃v cx bh bn an,(∀r,Mod r (c9 Γ)->iG P need inR call r l (aH.b8 env) d q h=.ca v bh bn an)/\c9 cx=c9 Γ/\(b2 v cx bh bn an).p
 |[],env,Γ,d,q,h,K,b2,ab=>.inl ⟨env,Γ,d,q,h,λ_ _=>rfl,rfl,ab⟩
 |s::rest,env,Γ,d,q,h,K,b2,ab=>by
  simp only[zr] at ab
  split at ab
  · cases ab
  · rename_i aq
    have je:∀r,Mod r (c9 Γ)->∀gd,dV P inR call gd s.o (λx=>dI s.m (aH.b8 env) r (cR P need s.loc x)) d q h=dV P inR call gd s.o (λx=>(hv s.m (aH.b8 env) (c9 Γ) (cR P need s.loc x)).getD .bad) d q h:=λr hm gd=>uh (Gb hm (LO aq))
    obtain⟨oA,hH,aA,ax,bD,hw⟩:=LP ab
    rcases hw with⟨hw,qi⟩|⟨hw,qi⟩
    · obtain⟨pd,Γ2,f1,f2,f3,aY⟩:=Gc hw
      rw[aA,ax] at aY
      rcases aY with⟨x,d1,ba,aa,he,de⟩|⟨v,d1,ba,aa,he,de⟩
      · have bb:=Ge rest (x::pd) Γ2 d1 ba aa de
        have key:∀r,Mod r (c9 Γ)->iG P need inR call r (s::rest) (aH.b8 env) d q h=iG P need inR call r rest (aH.b8 (x::pd)) d1 ba aa:=λr hm=>by
         rw[Gd,je r hm,wq (qi.ok hm),he]
         simp only[aH.b8,f1,aA]
        rw[f2,ax] at bb
        rcases bb with⟨fr,cx,bh,bn,an,i1,i2,i3⟩|⟨v,cx,bh,bn,an,i1,i2,i3⟩
        · exact .inl ⟨fr,cx,bh,bn,an,λr hm=>(key r hm).trans (i1 r hm),i2,i3⟩
        · exact .inr ⟨v,cx,bh,bn,an,λr hm=>(key r hm).trans (i1 r hm),i2,i3⟩
      · refine .inr ⟨v,Γ2,d1,ba,aa,λr hm=>?_,f2.trans ax,de⟩
        rw[Gd,je r hm,wq (qi.ok hm),he]
    · have bb:=Ge rest (.v (.aO [])::oA) hH d q h hw
      have key:∀r,Mod r (c9 Γ)->iG P need inR call r (s::rest) (aH.b8 env) d q h=iG P need inR call r rest (aH.b8 (.v (.aO [])::oA)) d q h:=λr hm=>by
       rw[Gd,zc (qi.ok hm)]
       simp only[aH.b8,aH.den,aA]
      rw[ax] at bb
      rcases bb with⟨fr,cx,bh,bn,an,i1,i2,i3⟩|⟨v,cx,bh,bn,an,i1,i2,i3⟩
      · exact .inl ⟨fr,cx,bh,bn,an,λr hm=>(key r hm).trans (i1 r hm),i2,i3⟩
      · exact .inr ⟨v,cx,bh,bn,an,λr hm=>(key r hm).trans (i1 r hm),i2,i3⟩
theorem zt(t:Nat):∀Γ:dn,c9 (uR t Γ)=del t (c9 Γ)
 |[]=>rfl
 |(u,s)::l=>by
  simp only[uR,c9,del]
  cases Nat.beq t u with
  |true=>exact zt t l
  |false=>simp only[c9];rw[zt t l]
theorem Gf{m:Nat}{env:List aH}{fM:a2}{gM:dn}(hm:Mod fM (c9 gM)):∀(l:List (Nat×Acc)) (r:a2) (Γ:dn),Mod r (c9 Γ)->Mod (pR need m (aH.b8 env) fM l r) (c9 (uS need m env gM l Γ))
 |[],r,Γ,h=>h
 |(t,a)::l,r,Γ,h=>by
  have bb:=Gf (m:=m) (env:=env) hm l r Γ h
  simp only[pR,uS]
  cases Nat.testBit need t with
  |false=>exact bb
  |true=>
   cases al:mP m env gM a with
   |some s=>
    have:hv m (aH.b8 env) (c9 gM) a=some s.den:=by rw[<-wD,al];rfl
    simp only[c9,zt]
    rw[wE hm this];exact bb.put t s.den
   |none=>simp only[zt];exact bb.del t _
theorem Gg:∀(l:List (Nat×Acc)) (r:a2) (Γ:dn),Mod r (c9 Γ)->Mod (vG l r) (c9 (zs l Γ))
 |[],r,Γ,h=>h
 |(t,a)::l,r,Γ,h=>by simp only[zs,zt];exact(Gg l r Γ h).del t _
theorem LQ:∀(ops:List Oper) (n:Nat) (loc:List (Nat×Acc)) (gU:List Nat) (k:Nat) (s:DStep),(fh ops n loc gU)[k]? =some s->s.i=n+k
 |[],n,loc,gU,k,s,h=>by simp[fh] at h
 |o::l,n,loc,gU,0,s,h=>by simp only[fh,List.getElem?_cons_zero,Option.some.injEq] at h;rw[<-h];rfl
 |o::l,n,loc,gU,k+1,s,h=>by
  simp only[fh,List.getElem?_cons_succ] at h
  have:=LQ l (n+1) _ _ k s h
  omega
def wL(P:Program)(need:Nat)(ops:Array Oper)(s:DStep)(n:Nat)(l:List I)(G:Env)(dP:List Nat)(H:Nat->J):Prop:=s.i<n/\(kindOf P s.o.op=.pure->(∀x∈s.o.op.operands,(hv n l G (cR P need s.loc x)).isSome=true)/\∀v hc,nth (n-1-s.i) l=some v->nth (n-1-s.i) dP=some hc->pc n l G (j0 P need ops s.loc s.o) false\/(pc n l G (j0 P need ops s.loc s.o) true/\∃an,cP P s.o (λx=>(hv n l G (cR P need s.loc x)).getD .bad) (H hc)=.val v an))
theorem U5{α:Type}{n i:Nat}(h:i<n)(x:α)(l:List α):nth (n+1-1-i) (x::l)=nth (n-1-i) l:=by
 have:n+1-1-i=(n-1-i)+1:=by omega
 rw[this];rfl
theorem LR{α:Type}:∀(n:Nat) (l:List α) (x:α),nth n l=some x->x∈l
 |0,[],_,h=>by cases h
 |_+1,[],_,h=>by cases h
 |0,y::l,x,h=>by cases h;exact List.mem_cons_self
 |n+1,y::l,x,h=>List.mem_cons_of_mem _ (LR n l x h)
theorem wL.more{ops:Array Oper}{s:DStep}{n:Nat}{l:List I}{G:Env}{dP:List Nat}{H aX:Nat->J}(h:wL P need ops s n l G dP H)(x:I)(y:Nat)(cw:∀hc∈dP,aX hc=H hc):wL P need ops s (n+1) (x::l) G (y::dP) aX:=by
 obtain⟨aa,ad⟩:=h
 refine⟨by omega,λaq=>?_⟩
 obtain⟨bJ,bQ⟩:=ad aq
 refine⟨λz aW=>?_,λv hc aD mS=>?_⟩
 · obtain⟨w,hw⟩:=Option.isSome_iff_exists.1 (bJ z aW)
   rw[zo x hw];rfl
 · rw[U5 aa] at aD mS
   rcases bQ v hc aD mS with e|⟨dc,an,e⟩
   · exact .inl (e.more x)
   · have U6:=LR _ _ _ mS
     refine .inr ⟨dc.more x,an,?_⟩
     rw[cw hc U6,<-e]
     exact yU s.o _ λz aW=>by
      obtain⟨w,hw⟩:=Option.isSome_iff_exists.1 (bJ z aW)
      rw[zo x hw,hw]
end
section
variable {P:Program} {need:Nat} {inR:Bool} {call:aP}
theorem Cu:∀l:List aH,(aH.b8 l).length=l.length
 |[]=>rfl
 |_::l=>by simp only[aH.b8,List.length_cons,Cu l]
structure nE(P:Program)(need:Nat)(ops:Array Oper)(pre:List DStep)(env:List aH)(dP:List Nat)(Γ:dn)(h:J)(cE:Nat)(bj:nD)(H:Nat->J):Prop where
 cur:H cE=h
 le:∀hc∈dP,hc<=cE
 st:∀z∈bj,z.2.2.2<=cE/\H z.2.2.2=z.2.2.1
 pl:pre.length=env.length
 seen:∀s∈pre,wL P need ops s env.length (aH.b8 env) (c9 Γ) dP H
theorem nE.push{ops:Array Oper}{pre:List DStep}{env fr:List aH}{dP:List Nat}{Γ cx:dn}{h an:J}{cE lD:Nat}{bj sS:nD}{H aX:Nat->J}(w:nE P need ops pre env dP Γ h cE bj H){s:DStep}{v:aH}(af:s.i=env.length)(aA:aH.b8 fr=aH.b8 env)(ax:c9 cx=c9 Γ)(bD:fr.length=env.length)
  (cw:∀k,k<=cE->aX k=H k)(aD:cE<=lD)(ag:aX lD=an)(hs:∀z∈sS,z.2.2.2<=lD/\aX z.2.2.2=z.2.2.1)
  (aQ:kindOf P s.o.op=.pure->(∀x∈s.o.op.operands,(hv s.i (aH.b8 env) (c9 Γ) (cR P need s.loc x)).isSome=true)/\(pc s.i (aH.b8 env) (c9 Γ) (j0 P need ops s.loc s.o) false\/(pc s.i (aH.b8 env) (c9 Γ) (j0 P need ops s.loc s.o) true/\∃l_,cP P s.o (λx=>(hv s.i (aH.b8 env) (c9 Γ) (cR P need s.loc x)).getD .bad) h=.val v.den l_))):
  nE P need ops (pre++[s]) (v::fr) (cE::dP) cx an lD sS aX:=by
 refine⟨ag,λhc mS=>?_,hs,by simp[w.pl,bD],λz aW=>?_⟩
 · rcases List.mem_cons.1 mS with rfl|mS
   · exact aD
   · exact Nat.le_trans (w.le hc mS) aD
 · rw[List.length_cons,bD,ax]
   simp only[aH.b8,aA]
   rcases List.mem_append.1 aW with aW|aW
   · exact(w.seen z aW).more _ _ λhc mS=>cw hc (w.le hc mS)
   · obtain rfl:z=s:=by simpa using aW
     refine⟨by omega,λaq=>?_⟩
     obtain⟨bJ,bQ⟩:=aQ aq
     rw[af] at bJ bQ
     refine⟨λx ab=>?_,λu hc hu mS=>?_⟩
     · obtain⟨y,aU⟩:=Option.isSome_iff_exists.1 (bJ x ab)
       rw[zo _ aU];rfl
     · have h0:env.length+1-1-z.i=0:=by omega
       rw[h0] at hu mS
       cases hu;cases mS
       rcases bQ with bQ|⟨kG,l_,bQ⟩
       · exact .inl (bQ.more _)
       · refine .inr ⟨kG.more _,l_,?_⟩
         rw[cw cE (Nat.le_refl _),w.cur,<-bQ]
         exact yU _ _ λx ab=>by
          obtain⟨y,aU⟩:=Option.isSome_iff_exists.1 (bJ x ab)
          rw[zo _ aU,aU]
theorem zu{ops:Array Oper}{r:a2}{n:Nat}{env:List I}{s:DStep}:g9 P need ops r n env s=(j0 P need ops s.loc s.o).map λx=>(dI n env r x.1,x.2):=by
 unfold g9
 cases j0 P need ops s.loc s.o<;>rfl
def LS:jr->Prop
 |.val _ _=>True
 |.ca _ _=>True
 |.fail _=>True
 |_=>False
theorem U7{o:Oper}{g:Operand->I}{H:J}(aq:kindOf P o.op=.pure):LS (cP P o g H):=by
 have ha:∀(w:String) (x:Option I),LS (fT H w x):=λw x=>by cases x<;>trivial
 obtain⟨dst,op,type,pos,after,guard⟩:=o
 cases op<;>simp only[kindOf] at aq<;>(try (cases aq;done))<;>unfold cP<;>simp only
 case binOp=>exact ha _ _
 case slice=>exact ha _ _
 case lookup=>exact ha _ _
 case convert s d x=>
  have cX:∀e,P.underlying d≠some (.slice e):=λe he=>by rw[he] at aq;cases aq
  unfold iZ
  repeat' (first|trivial|exact absurd (by assumption) (cX _)|split)
 case call c=>
  cases ag:c.callee with
  |value f=>rw[ag] at aq;cases aq
  |invoke r n=>rw[ag] at aq;cases aq
  |builtin b=>
   rw[ag] at aq
   cases b<;>simp only at aq<;>(try (cases aq;done))<;>simp only[iz]<;>repeat' (first|trivial|exact ha _ _|split)
 all_goals repeat' (first|trivial|exact ha _ _|split)
theorem U8{o:Oper}{g:Operand->I}{d d1:List bZ}{q ba:bL}{h aa:J}{v:I}(aq:kindOf P o.op=.pure)(e:dV P inR call none o g d q h=.ok v d1 ba aa):∃an,cP P o g h=.val v an:=by
 have aD:=U7 (P:=P) (g:=g) (H:=h) aq
 unfold dV at e
 simp only[eK] at e
 cases aY:cP P o g h<;>rw[aY] at e aD<;>first|(exact aD.elim)|(cases e;done)|(cases e;exact⟨_,rfl⟩)
theorem U9{op:Op}{g:Operand->aH}{b:Nat}{K:aH->dr->c2}(h:(F_ P op g b K).p):∃s o,kC P op (λx=>(g x).den) b=some (aH.den s,o)/\(K s o).p:=by
 unfold F_ at h
 split at h
 · rename_i e x
   obtain⟨aA,ax,k⟩:=F7 (aH.mR h)
   exact⟨_,_,by simp only[kC,aA,ax];rfl,k⟩
 · rename_i t l c
   split at h
   · obtain⟨z,aW,k⟩:=h
     exact⟨_,_,K7 (op:=.makeSlice t l c) (v:=aH.den (.v _)) aW,k⟩
   · cases h
 · rename_i t len parts
   split at h
   · obtain⟨e,sz,z,cs,hu,hs,aW,aa,hf,ag,k⟩:=LL h
     rw[LM] at hf
     exact⟨.v _,_,by simp only[kC,hu,hs,aW,aa,hf,ag];rfl,k⟩
   · split at h
     · rename_i v o aD
       exact⟨.v v,o,aD,h⟩
     · cases h
 · split at h
   · rename_i v o aD
     exact⟨.v v,o,aD,h⟩
   · cases h
def ry(H:Nat->J)(k:Nat)(h:J)(j:Nat):J:=if j=k then h else H j
def qj(P:Program)(need:Nat)(inR:Bool)(call:aP)(ops:Array Oper)(cJ:Nat)(full l:List DStep)(env:List aH)(G:Env)(d:List bZ)(q:bL)(h:J)(bj:nD)(K:sQ)(b2:I->sQ):Prop:=
 (∃fr sU cx bh bn an lD sS aX,(∀r,Mod r G->gC P need inR call ops r cJ l (aH.b8 env) d q h (iN bj)=.ok (aH.b8 fr) bh bn an (iN sS))/\c9 cx=G/\nE P need ops full fr sU cx an lD sS aX/\(K fr sU cx bh bn an lD sS).p)\/
 ∃v fr sU cx bh bn an lD e m h0 wM sG aX zv,(∀r,Mod r G->gC P need inR call ops r cJ l (aH.b8 env) d q h (iN bj)=.ca v (aH.b8 fr) bh bn an (iN ((e,m,h0,wM)::sG)))/\c9 cx=G/\nE P need ops zv fr sU cx h0 wM sG aX/\(∃post,full=zv++post)/\(b2 v fr sU cx bh bn an lD ((e,m,h0,wM)::sG)).p
theorem qj.trans{ops:Array Oper}{cJ:Nat}{full l bV:List DStep}{env pd:List aH}{G:Env}{d d2:List bZ}{q a1:bL}{h ad:J}{bj LU:nD}{K:sQ}{b2:I->sQ}(aq:∀r,Mod r G->gC P need inR call ops r cJ l (aH.b8 env) d q h (iN bj)=gC P need inR call ops r cJ bV (aH.b8 pd) d2 a1 ad (iN LU))(he:qj P need inR call ops cJ full bV pd G d2 a1 ad LU K b2):qj P need inR call ops cJ full l env G d q h bj K b2:=by
 rcases he with⟨b6,cU,c8,ek,en,rz,rA,lF,zw,bC,cS,dC,e2⟩|⟨b6,cU,c8,ek,en,rz,rA,lF,zw,br,a3,dm,gl,k5,oB,bC,cS,dC,e2,pe⟩
 · exact .inl ⟨b6,cU,c8,ek,en,rz,rA,lF,zw,λr hm=>(aq r hm).trans (bC r hm),cS,dC,e2⟩
 · exact .inr ⟨b6,cU,c8,ek,en,rz,rA,lF,zw,br,a3,dm,gl,k5,oB,λr hm=>(aq r hm).trans (bC r hm),cS,dC,e2,pe⟩
theorem uT{ops:Array Oper}{r:a2}{cJ:Nat}{s:DStep}{rest:List DStep}{env:List I}{d:List bZ}{q:bL}{h:J}{bj:oq}:gC P need inR call ops r cJ (s::rest) env d q h bj=
  match kindOf P s.o.op with
  |.alloc=>match eK (g9 P need ops r s.i env s) with
   |none=>.fail ("guard " ++s.o.pos)
   |some false=>gC P need inR call ops r cJ rest (.aO []::env) d q h bj
   |some true=>match kC P s.o.op (λx=>dI s.i env r (cR P need s.loc x)) (cJ+s.i) with
    |some (v,o)=>gC P need inR call ops r cJ rest (v::env) d q (h.set (cJ+s.i) (some o)) bj
    |none=>.fail ("alloc " ++s.o.pos)
  |.pure=>match dV P inR call (g9 P need ops r s.i env s) s.o (λx=>dI s.i env r (cR P need s.loc x)) d q h with
   |.ok v _ _ _=>gC P need inR call ops r cJ rest (v::env) d q h bj
   |.ca _ _ _ _=>.fail ("pure " ++s.o.pos)
   |.fail w=>.fail w
  |.ew=>match ur s bj with
   |false=>.fail ("order " ++s.o.pos)
   |true=>match dV P inR call (g9 P need ops r s.i env s) s.o (λx=>dI s.i env r (cR P need s.loc x)) d q h with
    |.ok v bh bn an=>gC P need inR call ops r cJ rest (v::env) bh bn an ((s.i,s.e8,h)::bj)
    |.ca v bh bn an=>match rest.all (λbd=>Nat.testBit bd.e8 s.i) with
     |true=>.ca v env bh bn an ((s.i,s.e8,h)::bj)
     |false=>.fail ("panic " ++s.o.pos)
    |.fail w=>.fail w:=by
 cases bj<;>rfl
theorem uU{pl:k4}{iM:Nat}{ops:Array Oper}{cJ:Nat}{full:List DStep}(qk:∀(k:Nat) (s:DStep),full[k]? =some s->s.i=k){K:sQ}{b2:I->sQ}:∀(l pre:List DStep) (env:List aH) (dP:List Nat) (Γ:dn) (d:List bZ) (q:bL) (h:J) (cE:Nat) (bj:nD) (H:Nat->J),full=pre++l->nE P need ops pre env dP Γ h cE bj H->(sR P need inR call pl iM ops cJ l env dP Γ d q h cE bj K b2).p->qj P need inR call ops cJ full l env (c9 Γ) d q h bj K b2
 |[],pre,env,dP,Γ,d,q,h,cE,bj,H,hf,w,ab=>by
  rw[List.append_nil] at hf
  subst hf
  exact .inl ⟨env,dP,Γ,d,q,h,cE,bj,H,λ_ _=>rfl,rfl,w,ab⟩
 |s::rest,pre,env,dP,Γ,d,q,h,cE,bj,H,hf,w,ab=>by
  have af:s.i=env.length:=by
   rw[<-w.pl]
   exact qk pre.length s (by rw[hf];simp)
  have wN:full=(pre++[s])++rest:=by rw[hf];simp
  simp only[sR] at ab
  split at ab
  · cases ab
  · rename_i aq
    have uV:=LO aq
    have al:∀r,Mod r (c9 Γ)->∀x∈s.o.op.operands,dI s.i (aH.b8 env) r (cR P need s.loc x)=(hv s.i (aH.b8 env) (c9 Γ) (cR P need s.loc x)).getD .bad:=λr hm=>Gb hm uV
    have je:∀r,Mod r (c9 Γ)->∀gd,dV P inR call gd s.o (λx=>dI s.i (aH.b8 env) r (cR P need s.loc x)) d q h=dV P inR call gd s.o (λx=>(hv s.i (aH.b8 env) (c9 Γ) (cR P need s.loc x)).getD .bad) d q h:=λr hm gd=>uh (al r hm)
    obtain⟨oA,hH,aA,ax,bD,hw⟩:=LP ab
    have k0:∀z∈bj,z.2.2.2<=cE/\H z.2.2.2=z.2.2.1:=w.st
    rcases hw with⟨hw,qi⟩|⟨hw,qi⟩
    · have sV:∀r,Mod r (c9 Γ)->eK (g9 P need ops r s.i (aH.b8 env) s)=some true:=λr hm=>by rw[zu];exact qi.ok hm
      split at hw
      · rename_i hr
        obtain⟨v,o,aL,de⟩:=U9 hw
        have Cv:kC P s.o.op (λx=>(hv s.i (aH.b8 env) (c9 Γ) (cR P need s.loc x)).getD .bad) (cJ+s.i)=some (v.den,o):=by
         rw[<-aL];congr 1;exact funext λx=>by rw[Ga,aA,ax]
        have cN:nE P need ops (pre++[s]) (v::oA) (cE::dP) hH (h.set (cJ+s.i) (some o)) (cE+1) bj (ry H (cE+1) (h.set (cJ+s.i) (some o))):=
         w.push af aA ax bD (λk aq=>by unfold ry;rw[if_neg (by omega)]) (by omega) (by unfold ry;rw[if_pos rfl]) (λz aW=>by
          obtain⟨eu,fI⟩:=k0 z aW
          exact⟨by omega,by unfold ry;rw[if_neg (by omega)];exact fI⟩) (λaQ=>by rw[hr] at aQ;cases aQ)
        have bb:=uU qk rest (pre++[s]) (v::oA) (cE::dP) hH d q _ (cE+1) bj _ wN cN de
        rw[ax] at bb
        refine qj.trans (λr hm=>?_) bb
        rw[uT,hr]
        simp only[sV r hm]
        rw[yV _ _ (al r hm),Cv]
        simp only[aH.b8,aA]
      · rename_i hr
        obtain⟨pd,Γ2,f1,f2,f3,aY⟩:=Gc hw
        rw[aA,ax] at aY
        rcases aY with⟨x,d1,ba,aa,he,de⟩|⟨v,d1,ba,aa,he,de⟩
        · have fA:=U8 hr he
          have cN:nE P need ops (pre++[s]) (x::pd) (cE::dP) Γ2 h cE bj H:=
           w.push af (f1.trans aA) (f2.trans ax) (f3.trans bD) (λk aq=>rfl) (Nat.le_refl _) w.cur k0 (λ_=>⟨uV,.inr ⟨qi,fA⟩⟩)
          have bb:=uU qk rest (pre++[s]) (x::pd) (cE::dP) Γ2 d q h cE bj H wN cN de
          rw[f2,ax] at bb
          refine qj.trans (λr hm=>?_) bb
          rw[uT,hr]
          simp only
          rw[je r hm,wq (sV r hm),he]
          simp only[aH.b8,f1,aA]
        · cases de
      · rename_i hr
        split at hw
        · cases hw
        · rename_i l4
          obtain⟨pd,Γ2,f1,f2,f3,aY⟩:=Gc hw
          rw[aA,ax] at aY
          rcases aY with⟨x,d1,ba,aa,he,de⟩|⟨v,d1,ba,aa,he,de⟩
          · have cN:nE P need ops (pre++[s]) (x::pd) (cE::dP) Γ2 aa (cE+1) ((s.i,s.e8,h,cE)::bj) (ry H (cE+1) aa):=
              w.push af (f1.trans aA) (f2.trans ax) (f3.trans bD) (λk aq=>by unfold ry;rw[if_neg (by omega)]) (by omega) (by unfold ry;rw[if_pos rfl]) (λz aW=>by
               rcases List.mem_cons.1 aW with rfl|aW
               · exact⟨by simp,by unfold ry;rw[if_neg (by simp)];exact w.cur⟩
               · obtain⟨eu,fI⟩:=k0 z aW
                 exact⟨by omega,by unfold ry;rw[if_neg (by omega)];exact fI⟩) (λaQ=>by rw[hr] at aQ;cases aQ)
            have bb:=uU qk rest (pre++[s]) (x::pd) (cE::dP) Γ2 d1 ba aa (cE+1) _ _ wN cN de
            rw[f2,ax] at bb
            refine qj.trans (λr hm=>?_) bb
            rw[uT,hr]
            simp only[l4]
            rw[je r hm,wq (sV r hm),he]
            simp only[aH.b8,f1,aA,iN]
          · split at de
            · rename_i eB
              refine .inr ⟨v,oA,dP,Γ2,d1,ba,aa,cE+1,s.i,s.e8,h,cE,bj,H,pre,λr hm=>?_,f2.trans ax,?_,⟨_,hf⟩,de⟩
              · rw[uT,hr]
                simp only[l4]
                rw[je r hm,wq (sV r hm),he]
                simp only[eB,iN,aA]
              · exact⟨w.cur,w.le,w.st,w.pl.trans bD.symm,by rw[f2,ax,aA,bD];exact w.seen⟩
            · cases de
    · have sV:∀r,Mod r (c9 Γ)->eK (g9 P need ops r s.i (aH.b8 env) s)=some false:=λr hm=>by rw[zu];exact qi.ok hm
      cases hr:kindOf P s.o.op with
      |ew=>
       rw[hr] at hw
       simp only at hw
       split at hw
       · cases hw
       · rename_i l4
         have cN:nE P need ops (pre++[s]) (.v (.aO [])::oA) (cE::dP) hH h cE ((s.i,s.e8,h,cE)::bj) H:=
          w.push af aA ax bD (λk aq=>rfl) (Nat.le_refl _) w.cur (λz aW=>by
           rcases List.mem_cons.1 aW with rfl|aW
           · exact⟨Nat.le_refl _,w.cur⟩
           · exact k0 z aW) (λaQ=>by rw[hr] at aQ;cases aQ)
         have bb:=uU qk rest (pre++[s]) (.v (.aO [])::oA) (cE::dP) hH d q h cE _ H wN cN hw
         rw[ax] at bb
         refine qj.trans (λr hm=>?_) bb
         rw[uT,hr]
         simp only[l4]
         rw[zc (sV r hm)]
         simp only[aH.b8,aH.den,aA,iN]
      |alloc=>
       rw[hr] at hw
       simp only at hw
       have cN:nE P need ops (pre++[s]) (.v (.aO [])::oA) (cE::dP) hH h cE bj H:=
        w.push af aA ax bD (λk aq=>rfl) (Nat.le_refl _) w.cur k0 (λaQ=>by rw[hr] at aQ;cases aQ)
       have bb:=uU qk rest (pre++[s]) (.v (.aO [])::oA) (cE::dP) hH d q h cE bj H wN cN hw
       rw[ax] at bb
       refine qj.trans (λr hm=>?_) bb
       rw[uT,hr]
       simp only[sV r hm]
       simp only[aH.b8,aH.den,aA]
      |pure=>
       rw[hr] at hw
       simp only at hw
       have cN:nE P need ops (pre++[s]) (.v (.aO [])::oA) (cE::dP) hH h cE bj H:=
        w.push af aA ax bD (λk aq=>rfl) (Nat.le_refl _) w.cur k0 (λ_=>⟨uV,.inl qi⟩)
       have bb:=uU qk rest (pre++[s]) (.v (.aO [])::oA) (cE::dP) hH d q h cE bj H wN cN hw
       rw[ax] at bb
       refine qj.trans (λr hm=>?_) bb
       rw[uT,hr]
       simp only
       rw[zc (sV r hm)]
       simp only[aH.b8,aH.den,aA]
end
section
variable {P:Program} {need:Nat} {inR:Bool} {call:aP}
theorem U_{o:Oper}{g:Operand->aH}(aw:Ct P o g=true){h aa:J}{v:I}(e:cP P o (λx=>(g x).den) h=.val v aa)(an:J):∃ad,cP P o (λx=>(g x).den) an=.val v ad:=by
 have ha:∀{w:String} {x:Option I},fT h w x=.val v aa->∃ad,fT an w x=.val v ad:=λ{w x} e=>by
  cases x with
  |none=>cases e
  |some y=>cases e;exact⟨_,rfl⟩
 obtain⟨dst,op,type,pos,after,guard⟩:=o
 cases op<;>simp only[Ct] at aw<;>(try (cases aw;done))<;>unfold cP at e⊢ <;>simp only at e⊢
 case binOp op t x y yt=>
  split at aw
  · rename_i k a dh b ab aU
    rw[ab,aU] at e⊢
    simp only[aH.den,dZ] at e⊢
    exact ha e
  · rename_i a b ab aU
    rw[ab,aU] at e⊢
    simp only[aH.den,dZ] at e⊢
    exact ha e
  · rw[Bool.and_eq_true] at aw
    rw[aH.qh aw.1,aH.qh aw.2] at e⊢
    have ak:dZ P an op t x y (.bool (g x).k3) (.bool (g y).k3)=dZ P h op t x y (.bool (g x).k3) (.bool (g y).k3):=by
     simp only[dZ,gg]
    rw[ak];exact ha e
 case call c=>
  split at aw
  · rename_i ag
    rw[ag] at e⊢
    simp only[iz] at e⊢
    split at aw
    · rename_i t bc
      rw[bc] at e⊢
      cases hW:c.args.toList.map λx=>(g x).den with
      |nil=>rw[hW] at e;cases e
      |cons x l=>
       rw[hW] at e
       cases l with
       |nil=>
        simp only at e⊢
        split at aw
        · rename_i el hu
          simp only[cl,hu] at e⊢
          cases x<;>simp only at e⊢ <;>exact ha e
        · rename_i hu
          simp only[cl,hu] at e⊢
          cases x<;>simp only at e⊢ <;>exact ha e
        · cases aw
       |cons y l=>
        cases l with
        |nil=>simp only at e;cases e
        |cons z l=>simp only at e;cases e
    · cases aw
  · cases aw
 case typeAssert=>repeat' (first|contradiction|exact ha e|(cases e;done)|(cases e;exact⟨_,rfl⟩)|(cases e;simp_all;done)|split at e)
 all_goals repeat' (first|contradiction|exact ha e|(cases e;exact⟨_,rfl⟩)|(rw[if_pos (by assumption)];first|exact ha e|(cases e;exact⟨_,rfl⟩))|(cases e;done)|split at e)
theorem LV{K:c2}:∀(l:List aH),(wI l K).p->j6 (aH.b8 l)=true/\K.p
 |[],h=>⟨rfl,h⟩
 |s::l,h=>by
  have key:s.den.sound=true/\(wI l K).p:=by
   cases s<;>simp only[wI] at h<;>first|exact h|(split at h<;>first|exact⟨by assumption,h⟩|cases h)
  obtain⟨bJ,bQ⟩:=LV l key.2
  exact⟨by simp only[aH.b8,j6,key.1,bJ,Bool.and_true],bQ⟩
theorem LW{s:aH}{K:c2}(h:(F9 s K).p):s.den.sound=true/\K.p:=by
 cases s<;>simp only[F9] at h<;>first|exact⟨rfl,h⟩|exact h|skip
 all_goals first
  |exact LV _ h
  |(split at h
    · rename_i hs;exact⟨hs,h⟩
    · cases h)
theorem zx{o:Oper}{g:Operand->I}{v:I}{sP:Bool}{K:c2}:∀(l:List (Option J)),(wK P o g v sP l K).p->K.p/\(sP=false->∀h,some h∈l->o9 P o g h v)
 |[],h=>⟨h,λ_ _ hm=>by cases hm⟩
 |none::l,h=>by
  obtain⟨aa,ad⟩:=zx l h
  exact⟨aa,λaN an hm=>by
   rcases List.mem_cons.1 hm with e|hm
   · cases e
   · exact ad aN an hm⟩
 |some x::l,h=>by
  simp only[wK] at h
  cases sP with
  |true=>
   obtain⟨aa,ad⟩:=zx l h
   exact⟨aa,λaN=>by cases aN⟩
  |false=>
   obtain⟨h0,h⟩:=h
   obtain⟨aa,ad⟩:=zx l h
   exact⟨aa,λaN an hm=>by
    rcases List.mem_cons.1 hm with e|hm
    · cases e;exact h0
    · exact ad aN an hm⟩
theorem LX{ops:Array Oper}{r:a2}{n:Nat}{env:List I}{s:DStep}{v:I}{hc:Nat}{H:Nat->J}:∀(bj:nD) (d_:Option Nat) (h:J) (cE:Nat),H cE=h->(∀z∈bj,H z.2.2.2=z.2.2.1)->(∀o∈wJ s hc d_ h cE bj,mv P need ops r n env s v (match o with|none=>H hc|some h=>h)=true)->lk P need ops r n env s v d_ h (iN bj)=true
 |[],d_,h,cE,ak,hs,aw=>by
  simp only[iN]
  rw[Cd]
  simp only[wJ] at aw
  cases ae:rp s d_ [] with
  |true=>rfl
  |false=>
   rw[show rp s d_ (iN [])=false from ae] at aw
   simp only[Bool.and_true]
   cases aD:Nat.beq cE hc with
   |true=>
    have:=aw none (by rw[aD];simp)
    obtain rfl:=Nat.eq_of_beq_eq_true aD
    rw[<-ak];exact this
   |false=>exact aw (some h) (by rw[aD];simp)
 |(e,m,an,lD)::rest,d_,h,cE,ak,hs,aw=>by
  simp only[iN]
  rw[Cd]
  simp only[wJ] at aw
  have bb:=LX (ops:=ops) (r:=r) (n:=n) (env:=env) (v:=v) rest (some e) an lD (hs _ List.mem_cons_self) (λz aW=>hs z (List.mem_cons_of_mem _ aW)) λo aY=>aw o (List.mem_append.2 (.inr aY))
  simp only[]
  rw[bb,Bool.and_true]
  cases ae:rp s d_ ((e,m,an)::iN rest) with
  |true=>rfl
  |false=>
   rw[show rp s d_ (iN ((e,m,an,lD)::rest))=false from ae] at aw
   simp only
   cases aD:Nat.beq cE hc with
   |true=>
    have:=aw none (List.mem_append.2 (.inl (by rw[aD];simp)))
    obtain rfl:=Nat.eq_of_beq_eq_true aD
    rw[<-ak];exact this
   |false=>exact aw (some h) (List.mem_append.2 (.inl (by rw[aD];simp)))
theorem Gh{ops:Array Oper}{r:a2}{n:Nat}{env:List aH}{dP:List Nat}{Γ:dn}(hm:Mod r (c9 Γ)){last:Option Nat}{h:J}{cE:Nat}{bj:nD}{H:Nat->J}(cw:H cE=h)(cA:∀z∈bj,H z.2.2.2=z.2.2.1){K:c2}:∀(l:List DStep),(∀s∈l,s.i<n->wL P need ops s n (aH.b8 env) (c9 Γ) dP H)->(l9 P need ops n env dP Γ last h cE bj l K).p->lW P need ops r n (aH.b8 env) last h (iN bj) l=true
 |[],_,_=>rfl
 |s::rest,hs,ab=>by
  simp only[lW]
  simp only[l9] at ab
  have A4:=λ(k:(l9 P need ops n env dP Γ last h cE bj rest K).p)=>Gh hm cw cA rest (λz aW=>hs z (List.mem_cons_of_mem _ aW)) k
  split at ab
  · rename_i ae hr
    have af:s.i<n:=by simpa using ae
    obtain⟨_,oC⟩:=hs s List.mem_cons_self af
    obtain⟨uV,l2⟩:=oC hr
    rw[ae,hr]
    simp only
    split at ab
    · rename_i v hc aD mS
      have LY:nth (n-1-s.i) (aH.b8 env)=some v.den:=LD _ _ _ aD
      rw[LY]
      simp only[Option.getD_some]
      have fin:∀(aq:(l9 P need ops n env dP Γ last h cE bj rest K).p),(∀o∈wJ s hc last h cE bj,mv P need ops r n (aH.b8 env) s v.den (match o with|none=>H hc|some h=>h)=true)->(lk P need ops r n (aH.b8 env) s v.den last h (iN bj)&&lW P need ops r n (aH.b8 env) last h (iN bj) rest)=true:=λaq aY=>by
       rw[A4 aq,Bool.and_true]
       exact LX bj last h cE cw cA aY
      split at ab
      · rename_i rh
        exact fin ab λo aY=>by rw[rh] at aY;cases aY
      · split at ab
        ·
         have Gi:eK (g9 P need ops r n (aH.b8 env) s)=some false->∀an,mv P need ops r n (aH.b8 env) s (aH.den (.v (.aO []))) an=true:=λhw an=>by
          unfold mv;rw[hw]
         split at ab
         · rename_i a b uQ
           have ao:∀(x:aH),mP n env Γ a=some x->g9 P need ops r n (aH.b8 env) s=some (x.den,b):=λx ab=>by
            have kn:hv n (aH.b8 env) (c9 Γ) a=some x.den:=by rw[<-wD,ab];rfl
            rw[zu,uQ]
            simp only[Option.map_some,wE hm kn]
           split at ab
           · rename_i uj
             exact fin ab λo _=>Gi (by rw[ao _ uj];rfl) _
           · rename_i uj
             cases b with
             |false=>exact fin ab λo _=>Gi (by rw[ao _ uj];rfl) _
             |true=>cases ab
           · rename_i uj
             cases b with
             |true=>exact fin ab λo _=>Gi (by rw[ao _ uj];rfl) _
             |false=>cases ab
           · cases ab
         · cases ab
        · rename_i cX
          obtain⟨eT,ab⟩:=LW ab
          obtain⟨ab,Va⟩:=zx _ ab
          have gK:(λx=>(lC P need n env Γ s.loc x).den)=λx=>(hv n (aH.b8 env) (c9 Γ) (cR P need s.loc x)).getD .bad:=funext λx=>Ga
          refine fin ab λo aY=>?_
          rcases l2 v.den hc LY mS with e|⟨dc,e⟩
          · have hw:eK (g9 P need ops r n (aH.b8 env) s)=some false:=by rw[zu];exact e.ok hm
            unfold mv;rw[hw]
          · have hw:eK (g9 P need ops r n (aH.b8 env) s)=some true:=by rw[zu];exact dc.ok hm
            have look:∀an,(∃l_,cP P s.o (λx=>(lC P need n env Γ s.loc x).den) an=.val v.den l_)->mv P need ops r n (aH.b8 env) s v.den an=true:=λan ⟨l_,e⟩=>by
             have Vb:cP P s.o (λx=>dI n (aH.b8 env) r (cR P need s.loc x)) an=.val v.den l_:=by
              rw[<-e,gK]
              exact yU s.o an (Gb hm uV)
             unfold mv
             simp only[hw,Vb]
             exact ux _ eT
            rw[<-gK] at e
            cases o with
            |none=>exact look _ e
            |some an=>
             refine look an ?_
             cases ak:Ct P s.o (lC P need n env Γ s.loc) with
             |true=>
              obtain⟨aa,e⟩:=e
              exact U_ ak e an
             |false=>exact⟨an,uw (Va ak an aY)⟩
    · cases ab
  · rename_i o6
    have ab:=A4 ab
    rw[ab,Bool.and_true]
    cases ae:Nat.blt s.i n with
    |false=>rfl
    |true=>
     cases aq:kindOf P s.o.op with
     |pure=>exact absurd aq (o6 ae)
     |alloc=>rfl
     |ew=>rfl
theorem Gj{ops:Array Oper}{n:Nat}{env:List aH}{dP:List Nat}{Γ:dn}{last:Option Nat}{h:J}{cE:Nat}{bj:nD}{K:c2}:∀(l:List DStep),(l9 P need ops n env dP Γ last h cE bj l K).p->K.p
 |[],ab=>ab
 |s::rest,ab=>by
  have bb:(l9 P need ops n env dP Γ last h cE bj rest K).p->K.p:=λk=>Gj rest k
  simp only[l9] at ab
  split at ab
  · split at ab
    · split at ab
      · exact bb ab
      · split at ab
        · split at ab
          · split at ab
            · exact bb ab
            · split at ab
              · exact bb ab
              · cases ab
            · split at ab
              · exact bb ab
              · cases ab
            · cases ab
          · cases ab
        · exact bb (zx _ (LW ab).2).1
    · cases ab
  · exact bb ab
def LZ(P:Program)(need:Nat)(inR:Bool)(call:aP)(pl:k4)(iM:Nat)(ops:Array Oper)(Γ:dn)(d:List bZ)(q:bL)(h:J)(K:bu->dn->List bZ->bL->J->c2):c2:=
 sR P need inR call pl iM ops h.n (fh ops.toList 0 [] []) [] [] Γ d q (h.room ops.size) 0 []
  (λenv dP Γ d q h cE bj=>l9 P need ops env.length env dP Γ none h cE bj (fh ops.toList 0 [] []) (oy (uS need env.length env Γ (jt ops.toList 0 []) Γ) λΓ=>K .nrm Γ d q h))
  (λv env dP Γ d q h cE bj=>match bj with
   |(e,m,h0,wM)::bj=>l9 P need ops env.length env dP Γ (some e) h0 wM bj (fh ops.toList 0 [] []) (oy (zs (jt ops.toList 0 []) Γ) λΓ=>K (.ca v) Γ d q h)
   |[]=>bad "a panic")
def Gk(P:Program)(need:Nat)(rd:Option Nat)(call:aP)(c:Code)(Γ:dn)(d:List bZ)(q:bL)(h:J)(K:bu->dn->List bZ->bL->J->c2):Prop:=∃e cx bh bn an,cQ P need rd call c ⟨c9 Γ,d,q,h⟩ e ⟨c9 cx,bh,bn,an⟩/\(K e cx bh bn an).p
theorem Vc{rd:Option Nat}{pl:k4}{iM:Nat}{ops:Array Oper}{Γ:dn}{d:List bZ}{q:bL}{h:J}{K:bu->dn->List bZ->bL->J->c2}(ab:(LZ P need rd.isSome call pl iM ops Γ d q h K).p):Gk P need rd call (.region iM ops true) Γ d q h K:=by
 have qk:∀(k:Nat) (s:DStep),(fh ops.toList 0 [] [])[k]? =some s->s.i=k:=λk s hs=>by have:=LQ _ _ _ _ _ _ hs;omega
 have g_:nE P need ops [] [] [] Γ (h.room ops.size) 0 [] (λ_=>h.room ops.size):=⟨rfl,λ_ hm=>(by cases hm),λ_ hm=>(by cases hm),rfl,λ_ hm=>(by cases hm)⟩
 rcases uU qk (fh ops.toList 0 [] []) [] [] [] Γ d q (h.room ops.size) 0 [] _ rfl g_ ab with⟨fr,sU,cx,bh,bn,an,lD,sS,aX,bC,cS,w,de⟩|⟨v,fr,sU,cx,bh,bn,an,lD,e,m,h0,wM,sG,aX,zv,bC,cS,w,⟨post,aQ⟩,de⟩
 · refine⟨.nrm,_,bh,bn,an,λr hm=>?_,pb (Gj _ de)⟩
   have aa:=bC r hm
   have ad:=Gh (r:=r) (by rw[cS];exact hm) w.cur (λz aW=>(w.st z aW).2) _ (λs hs _=>w.seen s hs) de
   refine⟨_,?_,Gf (by rw[cS];exact hm) _ _ _ (by rw[cS];exact hm)⟩
   have hq:gC P need rd.isSome call ops r h.n (fh ops.toList 0 [] []) [] d q ⟨h.t,h.n+ops.size⟩ []=.ok (aH.b8 fr) bh bn an (iN sS):=aa
   simp only[dJ,tD,hq,Cu,ad,nd]
 · refine⟨.ca v,_,bh,bn,an,λr hm=>?_,pb (Gj _ de)⟩
   have aa:=bC r hm
   have Vd:∀s∈fh ops.toList 0 [] [],s.i<fr.length->wL P need ops s fr.length (aH.b8 fr) (c9 cx) sU aX:=λs hs af=>by
    refine w.seen s ?_
    obtain⟨k,aq,qa⟩:=List.getElem_of_mem hs
    have afQ:s.i=k:=qk k s (by rw[List.getElem?_eq_getElem aq,qa])
    have wO:k<zv.length:=by rw[w.pl];omega
    have:(zv++post)[k]? =some s:=by rw[<-aQ,List.getElem?_eq_getElem aq,qa]
    rw[List.getElem?_append_left wO] at this
    exact List.mem_of_getElem? this
   have ad:=Gh (r:=r) (by rw[cS];exact hm) w.cur (λz aW=>(w.st z aW).2) _ Vd de
   refine⟨_,?_,Gg _ _ _ (by rw[cS];exact hm)⟩
   have hq:gC P need rd.isSome call ops r h.n (fh ops.toList 0 [] []) [] d q ⟨h.t,h.n+ops.size⟩ []=.ca v (aH.b8 fr) bh bn an ((e,m,h0)::iN sG):=aa
   simp only[dJ,tD,hq,Cu,ad,nd]
end
abbrev uW:=bu->dn->List bZ->bL->J->c2
def Cw(P:Program):List (Nat×kJ)->(dn->c2)->c2
 |[],K=>K []
 |(t,s)::l,K=>shape P 9 s λx=>Cw P l λΓ=>K ((t,x)::Γ)
def Gl(P:Program)(d:List bZ)(q:bL)(K:uW)(b9:bu)(cf:ah):List (bu×List (Nat×kJ))->c2
 |[]=>bad "loop"
 |[(e,rs)]=>Cw P rs λgM=>gX λg:J=>gX λcx:Env=>gx (b9=e) (gx (cf=⟨cx,d,q,g⟩) (gx (cd (c9 gM) cx) (K e gM d q g)))
 |(e,rs)::l=>.mk ((Cw P rs λgM=>gX λg:J=>gX λcx:Env=>gx (b9=e) (gx (cf=⟨cx,d,q,g⟩) (gx (cd (c9 gM) cx) (K e gM d q g)))).p\/(Gl P d q K b9 cf l).p)
def Ve:Operand->Nat
 |.tmp t=>t
 |_=>999
def Cx(P:Program)(call:aP)(fn:Func)(pl:k4)(gm:Nat)(path:List Nat)(Γ:dn)(d:List bZ)(q:bL)(h:J)(K:uW):c2:=match uI (4000+gm) pl with
 |some (.gO ins outs)=>.mk (a4 P fn call path ⟨ny (c9 Γ) ins,d,q,h⟩ λb9 cf=>(Gl P d q K b9 cf outs).p)
 |_=>bad "loop"
def nF(P:Program)(call:aP)(fn:Func)(need:Nat)(pl:k4):Code->Nat->List Nat->dn->List bZ->bL->J->uW->c2
 |.skip,_,_,Γ,d,q,h,K=>K .nrm Γ d q h
 |.label _,_,_,Γ,d,q,h,K=>K .nrm Γ d q h
 |.exit id,_,_,Γ,d,q,h,K=>K (.exit id) Γ d q h
 |.ret,_,_,Γ,d,q,h,K=>K .ret Γ d q h
 |.scope b,gm,p,Γ,d,q,h,K=>nF P call fn need pl b gm (p++[0]) Γ d q h K
 |.region id ops draw,_,_,Γ,d,q,h,K=>match draw with
  |false=>zr P need false call pl id (pQ P need ops).steps [] Γ d q h
   (λenv Γ d q h=>oy (uS need env.length env Γ (pQ P need ops).loc Γ) λΓ=>K .nrm Γ d q h)
   (λv Γ d q h=>oy (zs (pQ P need ops).loc Γ) λΓ=>K (.ca v) Γ d q h)
  |true=>LZ P need false call pl id ops Γ d q h K
 |.seq a b,gm,p,Γ,d,q,h,K=>nF P call fn need pl a gm (p++[0]) Γ d q h λe Γ d q h=>match e with
  |.nrm=>nF P call fn need pl b gm (p++[1]) Γ d q h K
  |e=>K e Γ d q h
 |.cond c a b,gm,p,Γ,d,q,h,K=>match mP 0 [] Γ (cR P need [] c) with
  |none=>bad "if"
  |some s=>s.ig (Cn (uI (1000+Ve c) pl)) (oy (uH (cR P need [] c) .jz Γ) λΓ=>nF P call fn need pl a gm (p++[0]) Γ d q h K) (oy (uH (cR P need [] c) .kq Γ) λΓ=>nF P call fn need pl b gm (p++[1]) Γ d q h K)
 |.block id b,_,p,Γ,d,q,h,K=>nF P call fn need pl b id (p++[0]) Γ d q h λe Γ d q h=>match e with
  |.exit i=>match Nat.beq i id with
   |true=>K .nrm Γ d q h
   |false=>K (.exit i) Γ d q h
  |e=>K e Γ d q h
 |.loop _,gm,p,Γ,d,q,h,K=>Cx P call fn pl gm p Γ d q h K
 |.rangeFunc _ _ _ _,gm,p,Γ,d,q,h,K=>Cx P call fn pl (500+gm) p Γ d q h K
 |_,_,_,_,_,_,_,_=>bad "code"
section
variable {P:Program} {call:aP} {fn:Func}
theorem Gm:∀(l:List (Nat×kJ)) {K:dn->c2},(Cw P l K).p->∃Γ,(K Γ).p
 |[],K,h=>⟨[],h⟩
 |(t,s)::l,K,h=>by
  obtain⟨x,h⟩:=uO h
  obtain⟨Γ,h⟩:=Gm l h
  exact⟨_,h⟩
theorem L0{d:List bZ}{q:bL}{K:uW}{b9:bu}{cf:ah}:∀(l:List (bu×List (Nat×kJ))),(Gl P d q K b9 cf l).p->∃gM cx g,cf=⟨cx,d,q,g⟩/\cd (c9 gM) cx/\(K b9 gM d q g).p
 |[],h=>by cases h
 |[(e,rs)],h=>by
  obtain⟨gM,g,cx,rfl,ad,av,aG⟩:=Gm _ h
  exact⟨gM,cx,g,ad,av,aG⟩
 |(e,rs)::y::l,h=>by
  rcases h with h|h
  · obtain⟨gM,g,cx,rfl,ad,av,aG⟩:=Gm _ h
    exact⟨gM,cx,g,ad,av,aG⟩
  · exact L0 (y::l) h
theorem Cy(Γ:Env):∀l:List Nat,cd (ny Γ l) Γ
 |[]=>trivial
 |t::l=>by
  simp only[ny]
  cases h:ej t Γ with
  |none=>exact Cy Γ l
  |some v=>exact⟨h,Cy Γ l⟩
theorem L1{pl:k4}{gm:Nat}{p:List Nat}{Γ:dn}{d:List bZ}{q:bL}{h:J}{K:uW}(ab:(Cx P call fn pl gm p Γ d q h K).p):Gk P (dR fn) none call (sub (fk fn) p) Γ d q h K:=by
 unfold Cx at ab
 split at ab
 · obtain⟨e,st,aj,aJ⟩:=ab
   obtain⟨gM,cx,g,rfl,av,aG⟩:=L0 _ aJ
   have aa:cQ P (dR fn) none call (sub (fk fn) p) ⟨c9 Γ,d,q,h⟩ e ⟨cx,d,q,g⟩:=cQ.pre (st1:=⟨c9 Γ,d,q,h⟩) aj (Cy _ _) rfl rfl rfl
   exact⟨e,gM,d,q,g,cQ.post aa av,aG⟩
 · cases ab
theorem sW{pl:k4}:∀(c:Code) (gm:Nat) (p:List Nat) (Γ:dn) (d:List bZ) (q:bL) (h:J) (K:uW),sub (fk fn) p=c->(nF P call fn (dR fn) pl c gm p Γ d q h K).p->Gk P (dR fn) none call c Γ d q h K
 |.skip,gm,p,Γ,d,q,h,K,ag,ab=>⟨.nrm,Γ,d,q,h,λr aj=>⟨r,rfl,aj⟩,ab⟩
 |.label _,gm,p,Γ,d,q,h,K,ag,ab=>⟨.nrm,Γ,d,q,h,λr aj=>⟨r,rfl,aj⟩,ab⟩
 |.exit id,gm,p,Γ,d,q,h,K,ag,ab=>⟨.exit id,Γ,d,q,h,λr aj=>⟨r,rfl,aj⟩,ab⟩
 |.ret,gm,p,Γ,d,q,h,K,ag,ab=>⟨.ret,Γ,d,q,h,λr aj=>⟨r,rfl,aj⟩,ab⟩
 |.scope b,gm,p,Γ,d,q,h,K,ag,ab=>sW b gm (p++[0]) Γ d q h K (by rw[jR,ag];simp[sub]) ab
 |.region id ops draw,gm,p,Γ,d,q,h,K,ag,ab=>by
  simp only[nF] at ab
  cases draw with
  |true=>exact Vc ab
  |false=>
   rcases Ge _ _ _ _ _ _ ab with⟨fr,cx,bh,bn,an,bC,cS,de⟩|⟨v,cx,bh,bn,an,bC,cS,de⟩
   · refine⟨.nrm,_,bh,bn,an,λr aj=>⟨_,?_,Gf (by rw[cS];exact aj) _ _ _ (by rw[cS];exact aj)⟩,pb de⟩
     have aa:iG P (dR fn) false call r (pQ P (dR fn) ops).steps [] d q h=.ok (aH.b8 fr) bh bn an:=bC r aj
     simp only[dJ,Option.isSome_none,aa,nd,Cu]
   · refine⟨.ca v,_,bh,bn,an,λr aj=>⟨_,?_,Gg _ _ _ (by rw[cS];exact aj)⟩,pb de⟩
     have aa:iG P (dR fn) false call r (pQ P (dR fn) ops).steps [] d q h=.ca v bh bn an:=bC r aj
     simp only[dJ,Option.isSome_none,aa,nd]
 |.seq a b,gm,p,Γ,d,q,h,K,ag,ab=>by
  obtain⟨e,hH,d1,ba,aa,r1,bJ⟩:=sW a gm (p++[0]) Γ d q h _ (by rw[jR,ag];simp[sub]) ab
  by_cases he:e=.nrm
  · subst he
    obtain⟨ax,Γ2,d2,a1,ad,r2,bQ⟩:=sW b gm (p++[1]) hH d1 ba aa K (by rw[jR,ag];simp[sub]) bJ
    refine⟨ax,Γ2,d2,a1,ad,λr aj=>?_,bQ⟩
    obtain⟨nG,hE,nH⟩:=r1 r aj
    obtain⟨j8,oD,Vf⟩:=r2 nG nH
    exact⟨j8,by simp only at hE oD;simp only[dJ,hE,qQ,oD],Vf⟩
  · refine⟨e,hH,d1,ba,aa,λr aj=>?_,by cases e<;>first|exact absurd rfl he|exact bJ⟩
    obtain⟨nG,hE,nH⟩:=r1 r aj
    exact⟨nG,by simp only[dJ,hE];exact tZ he,nH⟩
 |.cond c a b,gm,p,Γ,d,q,h,K,ag,ab=>by
  simp only[nF] at ab
  split at ab
  · cases ab
  · rename_i s hs
    have kn:hv 0 [] (c9 Γ) (cR P (dR fn) [] c)=some s.den:=by rw[show([]:List I)=aH.b8 [] from rfl,<-wD,hs];rfl
    obtain⟨ae,aU⟩:=Cq _ ab
    have ao:=aH.qh ae
    rcases aU with⟨bc,aq⟩|⟨bc,aq⟩
    · rw[bc] at ao
      obtain⟨_,ax,_⟩:=wF (x:=.jz) hs ao
      obtain⟨e,hH,d1,ba,aa,r1,bJ⟩:=sW a gm (p++[0]) _ d q h K (by rw[jR,ag];simp[sub]) (pb aq)
      refine⟨e,hH,d1,ba,aa,λr aj=>?_,bJ⟩
      obtain⟨nG,hE,nH⟩:=r1 r (by rw[ax];exact aj)
      exact⟨nG,by simp only at hE;simp only[dJ,wE aj kn,ao,hE],nH⟩
    · rw[bc] at ao
      obtain⟨_,ax,_⟩:=wF (x:=.kq) hs ao
      obtain⟨e,hH,d1,ba,aa,r1,bJ⟩:=sW b gm (p++[1]) _ d q h K (by rw[jR,ag];simp[sub]) (pb aq)
      refine⟨e,hH,d1,ba,aa,λr aj=>?_,bJ⟩
      obtain⟨nG,hE,nH⟩:=r1 r (by rw[ax];exact aj)
      exact⟨nG,by simp only at hE;simp only[dJ,wE aj kn,ao,hE],nH⟩
 |.block id b,gm,p,Γ,d,q,h,K,ag,ab=>by
  obtain⟨e,hH,d1,ba,aa,r1,bJ⟩:=sW b id (p++[0]) Γ d q h _ (by rw[jR,ag];simp[sub]) ab
  cases e with
  |exit i=>
   simp only at bJ
   cases af:Nat.beq i id with
   |true=>
    rw[af] at bJ
    obtain rfl:=Nat.eq_of_beq_eq_true af
    exact⟨.nrm,hH,d1,ba,aa,λr aj=>by
     obtain⟨nG,hE,nH⟩:=r1 r aj
     exact⟨nG,by simp only at hE;simp only[dJ,hE,if_true],nH⟩,bJ⟩
   |false=>
    rw[af] at bJ
    have cX:¬i=id:=by intro cI;subst cI;simp at af
    exact⟨.exit i,hH,d1,ba,aa,λr aj=>by
     obtain⟨nG,hE,nH⟩:=r1 r aj
     exact⟨nG,by simp only at hE;simp only[dJ,hE,if_neg cX],nH⟩,bJ⟩
  |_=>
   exact⟨_,hH,d1,ba,aa,λr aj=>by
    obtain⟨nG,hE,nH⟩:=r1 r aj
    exact⟨nG,by simp only at hE;simp only[dJ,hE],nH⟩,bJ⟩
 |.loop b,gm,p,Γ,d,q,h,K,ag,ab=>by
  have:=L1 ab;rw[ag] at this;exact this
 |.rangeFunc f ps as cy,gm,p,Γ,d,q,h,K,ag,ab=>by
  have:=L1 ab;rw[ag] at this;exact this
 |.goto _,gm,p,Γ,d,q,h,K,ag,ab=>by simp only[nF] at ab;cases ab
 |.refuse _,gm,p,Γ,d,q,h,K,ag,ab=>by simp only[nF] at ab;cases ab
def L2(P:Program)(fn:Func)(call:aP)(pl:k4)(bO:List Nat)(path:List Nat)(Γ:dn)(d:List bZ)(q:bL)(h:J)(Q:bu->ah->Prop):Prop:=
 (nF P call fn (dR fn) pl (sub (fk fn) path) 0 path Γ d q h λe Γ d q h=>.mk (Q e ⟨ny (c9 Γ) bO,d,q,h⟩)).p
theorem dF(pl:k4)(bO:List Nat)(Γ:dn){cx:Env}{path:List Nat}{d:List bZ}{q:bL}{h:J}{Q:bu->ah->Prop}(cL:c9 Γ=cx)(H:L2 P fn call pl bO path Γ d q h Q):a4 P fn call path ⟨cx,d,q,h⟩ Q:=by
 subst cL
 obtain⟨e,hH,d1,ba,aa,r1,bJ⟩:=sW _ 0 path Γ d q h _ rfl H
 exact⟨e,_,cQ.post r1 (Cy _ bO),bJ⟩
def L3(P:Program)(fn:Func)(R:a9->Prop):uW:=λe Γ d q h=>match d with
 |[]=>match e with
  |.ca v=>.mk (R (.ca v h))
  |.ret|.nrm=>match sL P (dR fn) fn (c9 Γ) h with
   |some v=>.mk (R (.ret v h))
   |none=>bad "results"
  |_=>bad "end"
 |_=>bad "deferred"
def L4(P:Program)(fn:Func)(call:aP)(pl:k4)(Γ:dn)(h:J)(R:a9->Prop):Prop:=
 (nF P call fn (dR fn) pl (fk fn) 0 [] Γ [] .none h (L3 P fn R)).p
theorem dQ{intr:Nat->List I->J->Option (I×J)}{f n:Nat}{args:List I}{h:J}{R:a9->Prop}(pl:k4)(Γ:dn)(hf:P.funcs[f]? =some fn)(ae:fn.body.isSome=true)(af:intr f args h=none)(hle:Nat.ble args.length fn.ntmps=true)(cL:c9 Γ=ou 0 args)(H:L4 P fn (fp P intr n) pl Γ h R):R (fp P intr (n+1) (.fn f) args h):=by
 refine FX hf ae af hle (Q:=λe s=>s.d=[]/\((∃v,e=.ca v/\R (.ca v s.h))\/((e=.ret\/e=.nrm)/\∃v,sL P (dR fn) fn s.Γ s.h=some v/\R (.ret v s.h)))) ?_ λe s aJ=>?_
 · have hs:sub (fk fn) []=fk fn:=by cases fk fn<;>rfl
   obtain⟨e,hH,d1,ba,aa,r1,bJ⟩:=sW (fk fn) 0 [] Γ [] .none h _ hs H
   rw[cL] at r1
   refine⟨e,⟨c9 hH,d1,ba,aa⟩,by unfold aB;rw[hs];exact r1,?_⟩
   unfold L3 at bJ
   split at bJ
   · refine⟨rfl,?_⟩
     split at bJ
     · exact .inl ⟨_,rfl,bJ⟩
     · split at bJ
       · rename_i v aD;exact .inr ⟨.inl rfl,v,aD,bJ⟩
       · cases bJ
     · split at bJ
       · rename_i v aD;exact .inr ⟨.inr rfl,v,aD,bJ⟩
       · cases bJ
     · cases bJ
   · cases bJ
 · obtain⟨ao,aJ⟩:=aJ
   rcases aJ with⟨v,rfl,aj⟩|⟨he,v,aD,aj⟩
   · exact .inr ⟨v,rfl,ao,aj⟩
   · exact .inl ⟨he,ao,v,aD,aj⟩
end
attribute [irreducible] L2 L4
end bt
