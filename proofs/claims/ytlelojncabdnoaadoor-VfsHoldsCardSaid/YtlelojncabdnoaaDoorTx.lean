/-
  PROVED HERE: contracts of functions (Tx). No condition beside each statement's own.
-/
import Derived.Test.YtlelojncabdnoaaDoorSxb
set_option linter.unusedVariables false
set_option linter.unusedSimpArgs false
namespace aU
open Go
inductive Stop(hy:String):Prop
inductive b6 where
 |mk (p:Prop)
def b6.p:b6->Prop
 |.mk p=>p
abbrev bad(w:String):b6:=.mk (Stop w)
abbrev eD(p:Prop)(k:b6):b6:=.mk (p/\k.p)
abbrev e_{α:Type}(f:α->b6):b6:=.mk (∃x:α,(f x).p)
abbrev vm(c c':Prop)(a b:b6):b6:=.mk ((c->a.p)/\(c'->b.p))
inductive au where
 |v (a:I)
 |o (a:I)
 |iw|ix
 |lt (i n:Nat)|le (i n:Nat)|eq (i n:Nat)
 |bk (s:au)
 |dz (l:List au)
 |ev (l:List au)
def au.je:au->Bool
 |.iw=>true
 |.ix=>false
 |.lt i n=>eW (.ofNat i) (.ofNat n)
 |.le i n=>lv (.ofNat i) (.ofNat n)
 |.eq i n=>dQ (.ofNat i) (.ofNat n)
 |.bk s=>!s.je
 |.v (.bool b)=>b
 |_=>false
def au.q_:au->Bool
 |.iw|.ix|.lt _ _|.le _ _|.eq _ _|.bk _=>true
 |.v (.bool _)=>true
 |_=>false
mutual
def au.den:au->I
 |.v a=>a
 |.o a=>a
 |.iw=>.bool true
 |.ix=>.bool false
 |.lt i n=>.bool (eW (.ofNat i) (.ofNat n))
 |.le i n=>.bool (lv (.ofNat i) (.ofNat n))
 |.eq i n=>.bool (dQ (.ofNat i) (.ofNat n))
 |.bk s=>.bool (!s.je)
 |.dz l=>.agg (au.bu l)
 |.ev l=>.aF (au.bu l)
def au.bu:List au->List I
 |[]=>[]
 |s::l=>s.den::au.bu l
end
def jY:I->au
 |.bool true=>.iw
 |.bool false=>.ix
 |v=>.v v
abbrev ck:=List (Nat×au)
def b3:ck->Env
 |[]=>[]
 |(t,s)::l=>(t,s.den)::b3 l
def ra(t:Nat):ck->Option au
 |[]=>none
 |(u,s)::l=>match Nat.beq t u with
  |true=>some s
  |false=>ra t l
def rb:Nat->List au->Option au
 |_,[]=>none
 |0,s::_=>some s
 |n+1,_::l=>rb n l
def re:Nat->au->List au->List au
 |_,_,[]=>[]
 |0,x,_::l=>x::l
 |n+1,x,s::l=>s::re n x l
def rf(t:Nat)(x:au):ck->ck
 |[]=>[]
 |(u,s)::l=>match Nat.beq t u with
  |true=>(u,x)::l
  |false=>(u,s)::rf t x l
def iO(m:Nat)(env:List au)(Γ:ck):Acc->Option au
 |.env j=>match Nat.blt j m with
  |true=>rb (m-1-j) env
  |false=>none
 |.iF p=>ra p.num Γ
 |.val v=>some (jY v)
def sX(m:Nat)(a:Acc)(b:au)(env:List au):List au:=match a with
 |.env j=>re (m-1-j) b env
 |_=>env
def rh(a:Acc)(b:au)(Γ:ck):ck:=match a with
 |.iF p=>rf p.num b Γ
 |_=>Γ
def au.kr(s:au)(K:au->b6):b6:=match s with
 |.v a=>K (.v a)
 |.o a=>K (.o a)
 |.iw=>K .iw
 |.ix=>K .ix
 |.lt i n=>K (.lt i n)
 |.le i n=>K (.le i n)
 |.eq i n=>K (.eq i n)
 |.bk s=>K (.bk s)
 |.dz l=>K (.dz l)
 |.ev l=>K (.ev l)
def pw:List au->(List au->b6)->b6
 |[],K=>K []
 |s::l,K=>s.kr λs=>pw l λl=>K (s::l)
def lY:ck->(ck->b6)->b6
 |[],K=>K []
 |(t,s)::l,K=>s.kr λs=>lY l λl=>K ((t,s)::l)
inductive iP where
 |ty (t:TypeId)
 |is (v:I)|io (v:I)
 |z (k:IntKind)
 |n (k:IntKind)
 |o
 |p|F3
 |st|b
 |jO|F4 (c:cy)
 |ev (l:List iP)|dz (l:List iP)
 |F5 (t:TypeId) (s:iP)
 |fn (f:Nat) (k:Nat)
inductive np where
 |bJ (s:iP)
 |t|f
 |p (s:iP)
 |e (r:Option iP) (s:iP)
 |gR (ins:List Nat) (outs:List (bh×List (Nat×iP)))
def Bm:List au->List au
 |[]=>[]
 |.dz l::r=>l++Bm r
 |s::r=>s::Bm r
abbrev h0:=List (Nat×np)
def ri(k:Nat):h0->Option np
 |[]=>none
 |(j,o)::l=>match Nat.beq k j with
  |true=>some o
  |false=>ri k l
mutual
def shape(P:Program):Nat->iP->(au->b6)->b6
 |0,_,_=>bad "shape"
 |n+1,s,K=>match s with
  |.is v=>K (jY v)
  |.io v=>K (.o v)
  |.z k=>e_ λx:Int=>K (.o (.int k x))
  |.n k=>e_ λx:Nat=>K (.v (.int k (.ofNat x)))
  |.o=>e_ λx:I=>K (.o x)
  |.p=>e_ λx:Nat=>K (.v (.ptr x 0))
  |.F3=>e_ λx:Nat=>e_ λy:Nat=>K (.v (.ptr x y))
  |.st=>e_ λx:List UInt8=>K (.v (.str x))
  |.b=>e_ λx:Bool=>K (.v (.bool x))
  |.jO=>e_ λx:Nat=>e_ λy:Nat=>e_ λz:Nat=>e_ λc:cy=>K (.v (.slice x y z c))
  |.F4 c=>e_ λx:Nat=>e_ λz:Nat=>K (.v (.slice x 0 z c))
  |.ev l=>px P n l λr=>K (.ev r)
  |.dz l=>px P n l λr=>K (.dz r)
  |.F5 t s=>shape P n s λx=>K (.v (.iface t x.den))
  |.fn f k=>e_ λx:List I=>K (.v (.fn f [] x))
  |.ty t=>match P.underlying t with
   |some .bool=>e_ λx:Bool=>K (.v (.bool x))
   |some (.int k)=>e_ λx:Nat=>K (.v (.int k (.ofNat x)))
   |some .string=>e_ λx:List UInt8=>K (.v (.str x))
   |some (.pointer _)=>e_ λx:Nat=>K (.v (.ptr x 0))
   |some (.struct aP)=>px P n (aP.toList.map λf=>.ty f.type) λr=>K (.dz (Bm r))
   |some (.tuple ts)=>px P n (ts.toList.map .ty) λr=>K (.ev r)
   |some .invalid=>K (.v (.aF []))
   |some _=>e_ λx:I=>K (.o x)
   |none=>K (.v (.aF []))
def px(P:Program):Nat->List iP->(List au->b6)->b6
 |0,_,_=>bad "shapes"
 |n+1,l,K=>match l with
  |[]=>K []
  |s::l=>shape P n s λx=>px P n l λr=>K (x::r)
end
def au.nq(dI:Option Bool)(A B:b6):au->b6
 |.iw=>A
 |.ix=>B
 |.lt i n=>match dI with
  |none=>vm (i<n) (¬i<n) A B
  |some true=>eD (i<n) A
  |some false=>eD (¬i<n) B
 |.le i n=>match dI with
  |none=>vm (i<=n) (¬i<=n) A B
  |some true=>eD (i<=n) A
  |some false=>eD (¬i<=n) B
 |.eq i n=>match dI with
  |none=>vm (i=n) (¬i=n) A B
  |some true=>eD (i=n) A
  |some false=>eD (¬i=n) B
 |.bk s=>s.nq (match dI with|none=>none|some b=>some (!b)) B A
 |.v (.bool x)=>match dI with
  |none=>vm (x=true) (x=false) A B
  |some true=>eD (x=true) A
  |some false=>eD (x=false) B
 |_=>bad "choice"
def yi(o:Option np):Option Bool:=match o with
 |some .t=>some true
 |some .f=>some false
 |_=>none
def Bn(o:Option np)(t:TypeId):iP:=match o with
 |some (.bJ s)=>s
 |_=>.ty t
def Bo(op:BinOp)(x y:au):Option au:=match x,y with
 |.v (.int k (.ofNat a)),.v (.int gn (.ofNat b))=>match decide (k=gn) with
  |true=>match op with
   |.lss=>some (.lt a b)
   |.leq=>some (.le a b)
   |.gtr=>some (.lt b a)
   |.geq=>some (.le b a)
   |.eql=>some (.eq a b)
   |.neq=>some (.bk (.eq a b))
   |_=>none
  |false=>none
 |_,_=>none
def Bp(op:BinOp)(x y:au):Option (Prop×I):=match x,y with
 |.v (.int k (.ofNat a)),.v (.int gn (.ofNat b))=>match decide (k=gn),op,k with
  |true,.add,.i64=>some (a+b<9223372036854775808,.int .i64 (.ofNat (a+b)))
  |true,.sub,.i64=>some (b<=a/\a<9223372036854775808,.int .i64 (.ofNat (a-b)))
  |true,.mul,.i64=>some (a*b<9223372036854775808,.int .i64 (.ofNat (a*b)))
  |true,.add,.u64=>some (a+b<18446744073709551616,.int .u64 (.ofNat (a+b)))
  |true,.sub,.u64=>some (b<=a/\a<18446744073709551616,.int .u64 (.ofNat (a-b)))
  |_,_,_=>none
 |.v (.str a),.v (.str b)=>match op with
  |.add=>some (a.length+b.length<=1000000000000,.str (a++b))
  |_=>none
 |_,_=>none
def rj:au->List I
 |.o a=>[a]
 |s=>s.den.cells
def rk:List au->b6->b6
 |[],K=>K
 |.o a::l,K=>eD (a.cL=true) (rk l K)
 |_::l,K=>rk l K
def rl:List au->Bool
 |[]=>true
 |.o _::l=>rl l
 |s::l=>s.den.cL&&rl l
def sY(s:au)(K:b6):b6:=match s with
 |.o a=>eD (a.cL=true) K
 |.dz l=>match rl l with
  |true=>rk l K
  |false=>bad "cells"
 |s=>match s.den.cells.all I.cL with
  |true=>K
  |false=>bad "cells"
def k9:au->List au
 |.dz l=>l
 |.v (.agg cs)=>cs.map jY
 |s=>[s]
def au.Bq:au->Bool
 |.o _=>true
 |_=>false
def rm(place:Nat->Option (Nat×Nat)):List au->List (Nat×au)->Option (List au)
 |cells,[]=>some cells
 |cells,(i,s)::rest=>match place i with
  |none=>none
  |some (off,size)=>match Nat.beq (k9 s).length size&&Nat.ble (off+size) cells.length with
   |true=>rm place (cells.take off++k9 s++(cells.drop off).drop (k9 s).length) rest
   |false=>none
def lZ:List (Nat×au)->List au
 |[]=>[]
 |(_,s)::l=>k9 s++lZ l
def yj(P:Program)(t:TypeId)(len:Nat)(ps:List (Nat×au))(K:TypeId->List au->b6):b6:=match P.underlying t with
 |some (.slice e)=>match cG P e,dV P e with
  |some sz,some z=>match Nat.ble (len*sz) 16777216&&Nat.beq z.cells.length sz,(if len*sz=0 then[] else fc len z.cells).all I.cL,rm (λi=>some (i*sz,sz)) ((if len*sz=0 then[] else fc len z.cells).map jY) ps,rl (lZ ps) with
   |true,true,some cs,true=>rk (lZ ps) (pw cs λcs=>K e cs)
   |_,_,_,_=>bad "buildSlice"
  |_,_=>bad "buildSlice"
 |_=>bad "buildSlice"
def py(a b:Bool):Bool:=a==b
def Br(P:Program)(op:BinOp)(t:TypeId)(x y:au):Option au:=match x.q_&&y.q_,P.underlying t,op with
 |true,some .bool,.eql=>some (.v (.bool (py x.je y.je)))
 |true,some .bool,.neq=>some (.bk (.v (.bool (py x.je y.je))))
 |_,_,_=>none
def Np(x y:au):Bool:=match x,y with
 |.v (.ptr _ _),.v .d_|.v .d_,.v .d_|.v (.slice _ _ _ _),.v .bK|.v .bK,.v .bK|.v (.iface _ _),.v .dY|.v .dY,.v .dY=>true
 |_,_=>false
section
variable (P:Program) (inR:Bool) (call:cJ)
abbrev nr:=au->List bo->aJ->J->b6
abbrev ns:=I->List bo->aJ->J->b6
def yk(dI:Option np)(t:TypeId)(f:cM)(args:List I)(d:List bo)(q:aJ)(h:J)(K:nr)(c4:ns):b6:=match dI with
 |some (.p s)=>shape P 14 s λx=>e_ λg:J=>eD (call f args h=.bm x.den g) (c4 x.den d q g)
 |some (.e r s)=>.mk ((shape P 14 (match r with|some r=>r|none=>.ty t) λx=>e_ λg:J=>eD (call f args h=.ret x.den g) (K x d q g)).p\/(shape P 9 s λx=>e_ λg:J=>eD (call f args h=.bm x.den g) (c4 x.den d q g)).p)
 |dI=>shape P 14 (Bn dI t) λx=>e_ λg:J=>eD (call f args h=.ret x.den g) (K x d q g)
def oc(dI:Option np)(o:Oper)(g:Operand->au)(d:List bo)(q:aJ)(h:J)(K:nr)(c4:ns):b6:=
 match AR o (λx=>(g x).den) with
 |0=>match bV P o (λx=>(g x).den) h with
  |.val v ai=>match dI with
   |some (.bJ .o)=>K (.o v) d q ai
   |_=>K (.v v) d q ai
  |.bm v ai=>c4 v d q ai
  |.call f args ai=>yk P call dI o.type (.fn f) args d q ai K c4
  |.bY l args ai=>yk P call dI o.type (.bY l) args d q ai K c4
  |.lu x=>match inR with
   |true=>bad "defer"
   |false=>K (.v (.aF [])) (x::d) q h
  |.p2=>match inR with
   |true=>bad "recover"
   |false=>match q with
    |.none=>K (.v .dY) d .none h
    |.done v=>K (.v .dY) d (.done v) h
    |.act v=>K (.v v) d (.done v) h
  |.fail w=>bad w
 |1=>shape P 14 (Bn dI o.type) λx=>eD (jv P o (λy=>(g y).den) h x.den) (K x d q h)
 |_=>shape P 14 (Bn dI o.type) λx=>e_ λai:J=>eD (sH P o (λy=>(g y).den) h x.den ai) (K x d q ai)
def Bs(dI:Option np)(o:Oper)(g:Operand->au)(d:List bo)(q:aJ)(h:J)(K:nr)(c4:ns):b6:=match o.op with
 |.move x|.assign x=>(g x).kr λs=>K s d q h
 |.unOp .not _ x=>match(g x).q_ with
  |true=>(g x).kr λs=>K (.bk s) d q h
  |false=>bad "not"
 |.binOp op t x y _=>(g x).kr λu=>(g y).kr λw=>match(match Bo op u w with|some s=>some s|none=>Br P op t u w) with
  |some s=>K s d q h
  |none=>match Np u w with
   |true=>match eo P h op t x y u.den w.den with
    |some v=>(jY v).kr λs=>K s d q h
    |none=>bad "nil"
   |false=>match(match dI with|none=>Bp op u w|some _=>none) with
    |some (p,v)=>eD p (K (.v v) d q h)
    |none=>oc P inR call dI o g d q h K c4
 |.extract x i=>match g x with
  |.ev l=>match rb i l with
   |some s=>s.kr λs=>K s d q h
   |none=>bad "extract"
  |_=>oc P inR call dI o g d q h K c4
 |.indexAddr t x i=>match P.underlying t,g x,ez (g i).den with
  |some (.array m e),.v (.ptr b off),some n=>match cG P e with
   |some sz=>eD (n<m) (K (.v (.ptr b (off+n*sz))) d q h)
   |none=>bad "indexAddr"
  |some (.slice e),.v (.slice b off m c),some n=>match cG P e with
   |some sz=>eD (n<m) (K (.v (.ptr b (off+n*sz))) d q h)
   |none=>bad "indexAddr"
  |_,_,_=>bad "indexAddr of what"
 |.store t a x=>match(g a).den,cG P t with
  |.ptr b off,some n=>match Nat.beq (rj (g x)).length n with
   |true=>(g x).kr λs=>sY s (e_ λcb:J=>eD (storeCells h b off (rj s)=some cb) (K (.v (.aF [])) d q cb))
   |false=>bad "store size"
  |_,_=>bad "store"
 |.build t parts=>match(lZ (parts.toList.map λp=>(p.1,g p.2))).any au.Bq with
  |false=>oc P inR call dI o g d q h K c4
  |true=>match dV P t,P.underlying t with
   |some z,some (.struct aP)=>match aP.toList.all (λf=>(cG P f.type).isSome),rm (λi=>(aP[i]?).map λf=>(f.offset,P.cellsOf f.type)) (z.cells.map jY) (parts.toList.map λp=>(p.1,g p.2)),rl (lZ (parts.toList.map λp=>(p.1,g p.2))) with
    |true,some cs,true=>rk (lZ (parts.toList.map λp=>(p.1,g p.2))) (pw cs λcs=>K (.dz cs) d q h)
    |_,_,_=>bad "build"
   |_,_=>bad "build of what"
 |.buildSlice t len parts=>match(lZ (parts.toList.map λp=>(p.1,g p.2))).any au.Bq with
  |false=>oc P inR call dI o g d q h K c4
  |true=>yj P t len (parts.toList.map λp=>(p.1,g p.2)) λe cs=>K (.v (.slice h.n 0 len (.exact len))) d q (h.push (.cells (au.bu cs) e .own 0 0))
 |.box e x=>(g x).kr λs=>sY s (K (.v (.ptr h.n 0)) d q (h.push (.cells (rj s) e .own 0 0)))
 |.call c=>match c.callee with
  |.builtin .len=>match c.args.toList.map g,c.argTypes[0]? with
   |[.o a],some t=>e_ λn:Nat=>eD (gX P h t a=some (.int .i64 (.ofNat n))) (K (.v (.int .i64 (.ofNat n))) d q h)
   |_,_=>oc P inR call dI o g d q h K c4
  |_=>oc P inR call dI o g d q h K c4
 |_=>oc P inR call dI o g d q h K c4
end
theorem au.nt{s:au}(h:s.q_=true):s.den=.bool s.je:=by
 cases s with
 |v a=>cases a<;>first|rfl|cases h
 |o a=>cases h
 |dz l=>cases h
 |ev l=>cases h
 |iw=>rfl
 |ix=>rfl
 |lt i n=>rfl
 |le i n=>rfl
 |eq i n=>rfl
 |bk s=>rfl
theorem vn(a:I):(jY a).den=a:=by
 unfold jY;split<;>rfl
theorem Bt:∀(n:Nat) (l:List au),(rb n l).map au.den=nth n (au.bu l)
 |0,[]=>rfl
 |_+1,[]=>rfl
 |0,x::l=>rfl
 |n+1,x::l=>Bt n l
theorem F6(n:Nat)(l:List au)(s:au)(h:rb n l=some s):nth n (au.bu l)=some s.den:=by
 rw[<-Bt,h];rfl
theorem F7(t:Nat):∀Γ:ck,(ra t Γ).map au.den=cU t (b3 Γ)
 |[]=>rfl
 |(u,x)::l=>by
  simp only[ra,b3,cU]
  cases ad:Nat.beq t u with
  |true=>rfl
  |false=>exact F7 t l
def fx(m:Nat)(l:List I)(G:Env):Acc->Option I
 |.env j=>match Nat.blt j m with
  |true=>nth (m-1-j) l
  |false=>none
 |.iF p=>cU p.num G
 |.val v=>some v
theorem rn(m:Nat)(env:List au)(Γ:ck)(a:Acc):(iO m env Γ a).map au.den=fx m (au.bu env) (b3 Γ) a:=by
 cases a with
 |env j=>
  simp only[iO,fx]
  cases Nat.blt j m with
  |true=>exact Bt _ _
  |false=>rfl
 |iF p=>exact F7 _ _
 |val v=>simp only[iO,fx,Option.map_some,vn]
theorem rp{m:Nat}{l:List I}{G:Env}{r:aC}(hm:Mod r G){a:Acc}{v:I}(h:fx m l G a=some v):b9 m l r a=v:=by
 cases a with
 |env j=>
  simp only[fx] at h
  split at h
  · simp only[b9,h,Option.getD_some]
  · cases h
 |iF p=>simp only[fx] at h;simp only[b9];rw[<-Ft p];exact hm _ _ h
 |val x=>cases h;rfl
theorem vo{m:Nat}{l:List I}{G:Env}{a:Acc}{v:I}(x:I)(h:fx m l G a=some v):fx (m+1) (x::l) G a=some v:=by
 cases a with
 |env j=>
  simp only[fx] at h⊢
  split at h
  · rename_i ad
    have aG:j<m:=by simpa using ad
    have eI:Nat.blt j (m+1)=true:=by simp;omega
    rw[eI]
    have:m+1-1-j=(m-1-j)+1:=by omega
    rw[this];exact h
  · cases h
 |iF p=>exact h
 |val x=>exact h
theorem F8(x:au):∀(n:Nat) (l:List au),(∀s,rb n l=some s->s.den=x.den)->au.bu (re n x l)=au.bu l
 |0,[],_=>rfl
 |_+1,[],_=>rfl
 |0,s::l,h=>by simp only[re,au.bu,h s rfl]
 |n+1,s::l,h=>by simp only[re,au.bu];rw[F8 x n l h]
theorem F9(x:au):∀(n:Nat) (l:List au),(re n x l).length=l.length
 |0,[]=>rfl
 |_+1,[]=>rfl
 |0,s::l=>rfl
 |n+1,s::l=>by simp only[re,List.length_cons,F9 x n l]
theorem F_(t:Nat)(x:au):∀Γ:ck,(∀s,ra t Γ=some s->s.den=x.den)->b3 (rf t x Γ)=b3 Γ
 |[],_=>rfl
 |(u,s)::l,h=>by
  simp only[rf]
  simp only[ra] at h
  cases ad:Nat.beq t u with
  |true=>rw[ad] at h;simp only[b3,h s rfl]
  |false=>rw[ad] at h;simp only[b3];rw[F_ t x l h]
theorem sZ{m:Nat}{env:List au}{Γ:ck}{a:Acc}{s x:au}(h:iO m env Γ a=some s)(e:s.den=x.den):au.bu (sX m a x env)=au.bu env/\b3 (rh a x Γ)=b3 Γ/\(sX m a x env).length=env.length:=by
 cases a with
 |env j=>
  simp only[iO] at h
  split at h
  · exact⟨F8 x _ _ λaD ae=>by rw[h] at ae;cases ae;exact e,rfl,F9 _ _ _⟩
  · cases h
 |iF p=>exact⟨rfl,F_ _ _ _ λaD ae=>by rw[show ra p.num Γ=some s from h] at ae;cases ae;exact e,rfl⟩
 |val v=>exact⟨rfl,rfl,rfl⟩
theorem au.ks{s:au}{K:au->b6}(h:(s.kr K).p):(K s).p:=by cases s<;>exact h
theorem rq:∀{l:List au} {K:List au->b6},(pw l K).p->(K l).p
 |[],_,h=>h
 |s::l,K,h=>rq (l:=l) (au.ks h)
theorem mN:∀{l:ck} {K:ck->b6},(lY l K).p->(K l).p
 |[],_,h=>h
 |(t,s)::l,K,h=>mN (l:=l) (au.ks h)
theorem Ga{P:Program}:∀(n:Nat),(∀(s:iP) (K:au->b6),(shape P n s K).p->∃x,(K x).p)/\(∀(l:List iP) (K:List au->b6),(px P n l K).p->∃x,(K x).p)
 |0=>⟨λs K h=>(by simp only[shape] at h;cases h),λl K h=>(by simp only[px] at h;cases h)⟩
 |n+1=>by
  obtain⟨h1,aa⟩:=Ga (P:=P) n
  refine⟨λs K h=>?_,λl K h=>?_⟩
  · simp only[shape] at h
    cases s with
    |is v=>exact⟨_,h⟩
    |io v=>exact⟨_,h⟩
    |z k=>obtain⟨x,h⟩:=h;exact⟨_,h⟩
    |n k=>obtain⟨x,h⟩:=h;exact⟨_,h⟩
    |o=>obtain⟨x,h⟩:=h;exact⟨_,h⟩
    |p=>obtain⟨x,h⟩:=h;exact⟨_,h⟩
    |F3=>obtain⟨x,y,h⟩:=h;exact⟨_,h⟩
    |st=>obtain⟨x,h⟩:=h;exact⟨_,h⟩
    |b=>obtain⟨x,h⟩:=h;exact⟨_,h⟩
    |jO=>obtain⟨x,y,z,c,h⟩:=h;exact⟨_,h⟩
    |F4 c=>obtain⟨x,z,h⟩:=h;exact⟨_,h⟩
    |ev l=>obtain⟨r,h⟩:=aa _ _ h;exact⟨_,h⟩
    |dz l=>obtain⟨r,h⟩:=aa _ _ h;exact⟨_,h⟩
    |F5 t s=>obtain⟨r,h⟩:=h1 _ _ h;exact⟨_,h⟩
    |fn f k=>obtain⟨x,h⟩:=h;exact⟨_,h⟩
    |ty t=>
     simp only at h
     split at h
     · obtain⟨x,h⟩:=h;exact⟨_,h⟩
     · obtain⟨x,h⟩:=h;exact⟨_,h⟩
     · obtain⟨x,h⟩:=h;exact⟨_,h⟩
     · obtain⟨x,h⟩:=h;exact⟨_,h⟩
     · obtain⟨r,h⟩:=aa _ _ h;exact⟨_,h⟩
     · obtain⟨r,h⟩:=aa _ _ h;exact⟨_,h⟩
     · exact⟨_,h⟩
     · obtain⟨x,h⟩:=h;exact⟨_,h⟩
     · exact⟨_,h⟩
  · simp only[px] at h
    cases l with
    |nil=>exact⟨_,h⟩
    |cons s l=>
     obtain⟨x,h⟩:=h1 _ _ h
     obtain⟨r,h⟩:=aa _ _ h
     exact⟨_,h⟩
theorem rr{P:Program}{n:Nat}{s:iP}{K:au->b6}(h:(shape P n s K).p):∃x,(K x).p:=(Ga n).1 s K h
theorem Bu{p:Prop}{A B:b6}{dI:Option Bool}(h:(match dI with
  |none=>vm p (¬p) A B
  |some true=>eD p A
  |some false=>eD (¬p) B).p):(p/\A.p)\/(¬p/\B.p):=by
 cases dI with
 |none=>by_cases aZ:p
        · exact .inl ⟨aZ,h.1 aZ⟩
        · exact .inr ⟨aZ,h.2 aZ⟩
 |some b=>cases b with
  |true=>exact .inl h
  |false=>exact .inr h
theorem yl:∀(s:au) {dI:Option Bool} {A B:b6},(s.nq dI A B).p->s.q_=true/\((s.je=true/\A.p)\/(s.je=false/\B.p))
 |.iw,_,_,_,h=>⟨rfl,.inl ⟨rfl,h⟩⟩
 |.ix,_,_,_,h=>⟨rfl,.inr ⟨rfl,h⟩⟩
 |.lt i n,dI,A,B,h=>by
  refine⟨rfl,?_⟩
  rcases Bu (p:=i<n) h with⟨h1,aa⟩|⟨h1,aa⟩
  · exact .inl ⟨sP h1,aa⟩
  · exact .inr ⟨A9 h1,aa⟩
 |.le i n,dI,A,B,h=>by
  refine⟨rfl,?_⟩
  rcases Bu (p:=i<=n) h with⟨h1,aa⟩|⟨h1,aa⟩
  · exact .inl ⟨FQ h1,aa⟩
  · exact .inr ⟨FR h1,aa⟩
 |.eq i n,dI,A,B,h=>by
  refine⟨rfl,?_⟩
  rcases Bu (p:=i=n) h with⟨h1,aa⟩|⟨h1,aa⟩
  · exact .inl ⟨M8 h1,aa⟩
  · exact .inr ⟨M9 h1,aa⟩
 |.bk s,dI,A,B,h=>by
  refine⟨rfl,?_⟩
  simp only[au.nq] at h
  obtain⟨_,aa⟩:=yl s h
  simp only[au.je]
  rcases aa with⟨e,k⟩|⟨e,k⟩
  · right;exact⟨by rw[e];rfl,k⟩
  · left;exact⟨by rw[e];rfl,k⟩
 |.v a,dI,A,B,h=>by
  cases a<;>simp only[au.nq] at h<;>first|(cases h;done)|skip
  rename_i x
  refine⟨rfl,?_⟩
  simp only[au.je]
  cases x with
  |true=>left;refine⟨rfl,?_⟩;cases dI with
   |none=>exact h.1 rfl
   |some b=>cases b with
    |true=>exact h.2
    |false=>cases h.1
  |false=>right;refine⟨rfl,?_⟩;cases dI with
   |none=>exact h.2 rfl
   |some b=>cases b with
    |true=>cases h.1
    |false=>exact h.2
 |.o a,_,_,_,h=>by simp only[au.nq] at h;cases h
 |.dz l,_,_,_,h=>by simp only[au.nq] at h;cases h
 |.ev l,_,_,_,h=>by simp only[au.nq] at h;cases h
section
variable {P:Program} {inR:Bool} {call:cJ}
def gy(x:tK)(K:nr)(c4:ns):Prop:=(∃s d q h,x=.ok (au.den s) d q h/\(K s d q h).p)\/∃v d q h,x=.bm v d q h/\(c4 v d q h).p
theorem gy.val{o:Oper}{g:Operand->I}{d:List bo}{q:aJ}{h ai:J}{K:nr}{c4:ns}{s:au}(e:bV P o g h=.val s.den ai)(k:(K s d q ai).p):gy (c5 P inR call none o g d q h) K c4:=
 .inl ⟨s,d,q,ai,by simp only[c5,c8,e],k⟩
theorem vp{K:b6}:∀(l:List au),rl l=true->(rk l K).p->(au.bu l).all I.cL=true/\K.p
 |[],_,h=>⟨rfl,h⟩
 |x::l,hk,h=>by
  cases x with
  |o a=>
   obtain⟨h1,aa⟩:=h
   obtain⟨bz,bZ⟩:=vp l hk aa
   exact⟨by simp only[au.bu,List.all_cons,au.den,h1,bz,Bool.and_self],bZ⟩
  |_=>
   simp only[rl,Bool.and_eq_true] at hk
   simp only[rk] at h
   obtain⟨bz,bZ⟩:=vp l hk.2 h
   exact⟨by simp only[au.bu,List.all_cons,hk.1,bz,Bool.and_self],bZ⟩
theorem Bv{s:au}{K:b6}(h:(sY s K).p):s.den.cells=rj s/\(rj s).all I.cL=true/\K.p:=by
 cases s with
 |o a=>
  obtain⟨h1,aa⟩:=h
  refine⟨?_,by simp[rj,h1],aa⟩
  show a.cells=[a]
  cases a<;>first|rfl|cases h1
 |dz l=>
  simp only[sY] at h
  split at h
  · rename_i hk;exact⟨rfl,vp l hk h⟩
  · cases h
 |_=>
  simp only[sY] at h
  split at h
  · rename_i hk;exact⟨rfl,hk,h⟩
  · cases h
theorem jZ:∀l:List au,au.bu l=l.map au.den
 |[]=>rfl
 |s::l=>by simp only[au.bu,List.map_cons,jZ l]
theorem Nq{s:au}(h:(au.bu (k9 s)).all I.cL=true):s.den.cells=au.bu (k9 s)/\s.den≠ .bad:=by
 have one:∀a:I,a.cL=true->a.cells=[a]/\a≠ .bad:=λa aH=>by cases a<;>first|(cases aH;done)|exact⟨rfl,λh=>by cases h⟩
 have key:k9 s=[s]->s.den.cells=au.bu (k9 s)/\s.den≠ .bad:=λe=>by
  rw[e] at h⊢
  simp only[au.bu,List.all_cons,List.all_nil,Bool.and_true] at h⊢
  exact one _ h
 cases s with
 |dz l=>exact⟨rfl,nofun⟩
 |v a=>
  cases a with
  |agg cs=>
   refine⟨?_,nofun⟩
   show cs=au.bu (cs.map jY)
   rw[jZ,List.map_map]
   have:au.den∘jY=id:=funext vn
   rw[this,List.map_id]
  |_=>exact key rfl
 |_=>exact key rfl
theorem Nr{place:Nat->Option (Nat×Nat)}{cells:List I}{i:Nat}{v:I}{rest:List (Nat×I)}{off size:Nat}(aI:v≠ .bad)(aZ:place i=some (off,size))(ad:(Nat.beq v.cells.length size&&Nat.ble (off+size) cells.length)=true){cs:List I}(ab:putCells off v.cells cells=some cs):h_ place cells ((i,v)::rest)=h_ place cs rest:=by
 cases v<;>first|exact absurd rfl aI|simp only[h_,aZ,ad,ab]
theorem Bw{place:Nat->Option (Nat×Nat)}:∀(ps:List (Nat×au)) (cells cs:List au),rm place cells ps=some cs->(au.bu (lZ ps)).all I.cL=true->h_ place (au.bu cells) (ps.map λp=>(p.1,p.2.den))=some (au.bu cs)
 |[],cells,cs,h,_=>by cases h;rfl
 |(i,s)::rest,cells,cs,h,aH=>by
  simp only[lZ,jZ,List.map_append,List.all_append,Bool.and_eq_true] at aH
  rw[<-jZ,<-jZ] at aH
  obtain⟨bz,bZ⟩:=Nq aH.1
  simp only[rm] at h
  split at h
  · cases h
  · rename_i off size aZ
    split at h
    · rename_i ad
      have aq:(au.bu (k9 s)).length=(k9 s).length:=by rw[jZ,List.length_map]
      have ab:(au.bu cells).length=cells.length:=by rw[jZ,List.length_map]
      have eI:=ad
      simp only[Bool.and_eq_true,Nat.ble_eq] at eI
      have bg:=Nat.eq_of_beq_eq_true eI.1
      have tY:putCells off s.den.cells (au.bu cells)=some (au.bu (cells.take off++k9 s++(cells.drop off).drop (k9 s).length)):=by
       have:=Bg ((au.bu cells).take off) (au.bu (k9 s)) ((au.bu cells).drop off) aH.1 (by simp;omega)
       rw[List.length_take,Nat.min_eq_left (by omega),List.take_append_drop] at this
       rw[bz,this,aq]
       simp only[jZ,List.map_append,List.map_take,List.map_drop,List.append_assoc]
      rw[List.map_cons,Nr bZ aZ (by rw[bz,aq,ab];exact ad) tY]
      exact Bw rest _ cs h aH.2
    · cases h
theorem Gb{place:Nat->Option (Nat×Nat)}:∀(ps:List (Nat×au)) (cells cs:List au),rm place cells ps=some cs->(au.bu cells).all I.cL=true->(au.bu (lZ ps)).all I.cL=true->(au.bu cs).all I.cL=true
 |[],cells,cs,h,ab,_=>by cases h;exact ab
 |(i,s)::rest,cells,cs,h,ab,aH=>by
  simp only[lZ,jZ,List.map_append,List.all_append,Bool.and_eq_true] at aH
  rw[<-jZ,<-jZ] at aH
  simp only[rm] at h
  split at h
  · cases h
  · split at h
    · refine Gb rest _ cs h ?_ aH.2
      rw[jZ] at ab⊢
      rw[List.all_eq_true] at ab⊢
      have h1:=aH.1
      rw[jZ,List.all_eq_true] at h1
      intro x U
      rw[List.map_append,List.map_append,List.mem_append,List.mem_append] at U
      rcases U with(U|U)|U
      · rw[List.map_take] at U;exact ab x (List.mem_of_mem_take U)
      · exact h1 x U
      · rw[List.map_drop,List.map_drop] at U;exact ab x (List.mem_of_mem_drop (List.mem_of_mem_drop U))
    · cases h
theorem Gc{t:TypeId}{len:Nat}{ps:List (Nat×au)}{K:TypeId->List au->b6}(h:(yj P t len ps K).p):∃e sz z cs,P.underlying t=some (.slice e)/\cG P e=some sz/\dV P e=some z/\(Nat.ble (len*sz) 16777216&&Nat.beq z.cells.length sz)=true/\h_ (λi=>some (i*sz,sz)) (if len*sz=0 then[] else fc len z.cells) (ps.map λp=>(p.1,p.2.den))=some (au.bu cs)/\(au.bu cs).all I.cL=true/\(K e cs).p:=by
 unfold yj at h
 split at h
 · rename_i e hu
   split at h
   · rename_i sz z ae aL
     split at h
     · rename_i cs h1 aa ao aM
       obtain⟨bl,k⟩:=vp _ aM h
       have dg:au.bu ((if len*sz=0 then[] else fc len z.cells).map jY)=(if len*sz=0 then[] else fc len z.cells):=by rw[jZ,List.map_map,show au.den∘jY=id from funext vn,List.map_id]
       have hf:=Bw _ _ _ ao bl
       have ab:=Gb _ _ _ ao (by rw[dg];exact aa) bl
       rw[dg] at hf
       exact⟨e,sz,z,cs,hu,ae,aL,h1,hf,ab,rq k⟩
     · cases h
   · cases h
 · cases h
theorem Gd{g:Operand->au}(parts:Array (Nat×Operand)):(parts.toList.map λp=>(p.1,g p.2)).map (λp=>(p.1,p.2.den))=parts.toList.map λp=>(p.1,(g p.2).den):=by
 rw[List.map_map];rfl
theorem Ge{dI:Option np}{t:TypeId}{f:cM}{args:List I}{d:List bo}{q:aJ}{h:J}{K:nr}{c4:ns}(U:(yk P call dI t f args d q h K c4).p):gy (tL d q (call f args h)) K c4:=by
 unfold yk at U
 split at U
 · obtain⟨x,g,e,k⟩:=rr U
   rw[e];exact .inr ⟨_,_,_,_,rfl,k⟩
 · rcases U with U|U
   · obtain⟨x,g,e,k⟩:=rr U
     rw[e];exact .inl ⟨_,_,_,_,rfl,k⟩
   · obtain⟨x,g,e,k⟩:=rr U
     rw[e];exact .inr ⟨_,_,_,_,rfl,k⟩
 · obtain⟨x,g,e,k⟩:=rr U
   rw[e];exact .inl ⟨_,_,_,_,rfl,k⟩
theorem ru{dI:Option np}{o:Oper}{g:Operand->au}{d:List bo}{q:aJ}{h:J}{K:nr}{c4:ns}(U:(oc P inR call dI o g d q h K c4).p):gy (c5 P inR call none o (λx=>(g x).den) d q h) K c4:=by
 unfold oc at U
 split at U
 · split at U
   · rename_i v ai he
     split at U
     · exact gy.val (s:=.o v) he U
     · exact gy.val (s:=.v v) he U
   · rename_i v ai he
     exact .inr ⟨v,d,q,ai,by simp only[c5,c8,he],U⟩
   · rename_i f args ai he
     have:=Ge U
     simpa only[c5,c8,he] using this
   · rename_i l args ai he
     have:=Ge U
     simpa only[c5,c8,he] using this
   · rename_i x he
     split at U
     · cases U
     · exact .inl ⟨.v (.aF []),_,_,_,by simp only[c5,c8,he];rfl,U⟩
   · rename_i he
     split at U
     · cases U
     · split at U
       · exact .inl ⟨.v .dY,_,_,_,by simp only[c5,c8,he];rfl,U⟩
       · exact .inl ⟨.v .dY,_,_,_,by simp only[c5,c8,he];rfl,U⟩
       · rename_i v
         exact .inl ⟨.v v,_,_,_,by simp only[c5,c8,he];rfl,U⟩
   · cases U
 · obtain⟨x,c,k⟩:=rr U
   exact gy.val (pr c) k
 · obtain⟨x,ai,c,k⟩:=rr U
   exact gy.val (A1 c) k
theorem Ns{op:BinOp}{x y s:au}(U:Bo op x y=some s)(h:J)(t:TypeId)(a b:Operand):eo P h op t a b x.den y.den=some s.den:=by
 unfold Bo at U
 split at U
 · rename_i k b1 gn ib
   split at U
   · rename_i hk
     obtain rfl:k=gn:=of_decide_eq_true hk
     split at U<;>first|(cases U;done)|(cases U;simp only[au.den,eo,arith,if_true,au.je])
   · cases U
 · cases U
theorem Nt{op:BinOp}{x y s:au}{t:TypeId}(U:Br P op t x y=some s)(h:J)(a b:Operand):eo P h op t a b x.den y.den=some s.den:=by
 unfold Br at U
 split at U
 · rename_i ad hu
   rw[Bool.and_eq_true] at ad
   cases U
   rw[au.nt ad.1,au.nt ad.2]
   simp only[eo,oz,if_true,gG,hu,au.den,py]
 · rename_i ad hu
   rw[Bool.and_eq_true] at ad
   cases U
   rw[au.nt ad.1,au.nt ad.2]
   simp only[eo,oz,if_true,gG,hu,au.den,au.je,py]
 · cases U
theorem Nu{op:BinOp}{x y:au}{p:Prop}{v:I}(U:Bp op x y=some (p,v))(aZ:p)(h:J)(t:TypeId)(a b:Operand):eo P h op t a b x.den y.den=some v:=by
 unfold Bp at U
 split at U
 · rename_i k b1 gn ib
   split at U
   · rename_i hk;cases U;obtain rfl:=of_decide_eq_true hk
     simp only[au.den,eo,if_true];exact M1 aZ
   · rename_i hk;cases U;obtain rfl:=of_decide_eq_true hk
     simp only[au.den,eo,if_true];exact M3 aZ.1 aZ.2
   · rename_i hk;cases U;obtain rfl:=of_decide_eq_true hk
     simp only[au.den,eo,if_true];exact M4 aZ
   · rename_i hk;cases U;obtain rfl:=of_decide_eq_true hk
     simp only[au.den,eo,if_true];exact M6 aZ
   · rename_i hk;cases U;obtain rfl:=of_decide_eq_true hk
     simp only[au.den,eo,if_true];exact M7 aZ.1 aZ.2
   · cases U
 · split at U
   · cases U
     simp only[au.den,eo];exact MX aZ
   · cases U
 · cases U
theorem Nv{dI:Option np}{o:Oper}{g:Operand->au}{d:List bo}{q:aJ}{h:J}{K:nr}{c4:ns}(U:(Bs P inR call dI o g d q h K c4).p):gy (c5 P inR call none o (λx=>(g x).den) d q h) K c4:=by
 unfold Bs at U
 split at U
 · rename_i x aN
   exact gy.val (s:=g x) (by simp only[bV,aN]) (au.ks U)
 · rename_i x aN
   exact gy.val (s:=g x) (by simp only[bV,aN]) (au.ks U)
 · rename_i t x aN
   split at U
   · rename_i ad
     exact gy.val (s:=.bk (g x)) (by simp only[bV,aN,au.nt ad];rfl) (au.ks U)
   · cases U
 · rename_i op t x y yt aN
   replace U:=au.ks (au.ks U)
   have key:∀{s:au},eo P h op t x y (g x).den (g y).den=some s.den->(K s d q h).p->gy (c5 P inR call none o (λx=>(g x).den) d q h) K c4:=λ{s} e k=>gy.val (s:=s) (by simp only[bV,aN,e,eH]) k
   split at U
   · rename_i s ae
     split at ae
     · rename_i aD cZ;cases ae;exact key (Ns cZ h t x y) U
     · exact key (Nt ae h x y) U
   · split at U
     · split at U
       · rename_i v aI;exact key (s:=jY v) (by rw[vn];exact aI) (au.ks U)
       · cases U
     · split at U
       · rename_i p v aZ
         cases dI with
         |none=>exact key (s:=.v v) (Nu aZ U.1 h t x y) U.2
         |some _=>cases aZ
       · exact ru U
 · rename_i x i aN
   split at U
   · rename_i l aq
     split at U
     · rename_i s ae
       exact gy.val (s:=s) (by simp only[bV,aN,aq,au.den,F6 _ _ _ ae,eH]) (au.ks U)
     · cases U
   · exact ru U
 · rename_i t x i aN
   split at U
   · rename_i m e b off n hu ph ag
     split at U
     · rename_i sz aL
       exact gy.val (s:=.v (.ptr b (off+n*sz))) (by simp only[bV,aN,hu,ph,au.den,ag,aL,if_pos U.1]) U.2
     · cases U
   · rename_i e b off m c n hu ph ag
     split at U
     · rename_i sz aL
       exact gy.val (s:=.v (.ptr b (off+n*sz))) (by simp only[bV,aN,hu,ph,au.den,ag,aL,if_pos U.1]) U.2
     · cases U
   · cases U
 · rename_i t a x aN
   split at U
   · rename_i b off n pz aL
     split at U
     · rename_i aq
       obtain⟨aw,ar,cb,bn,k⟩:=Bv (au.ks U)
       have ab:sH P o (λy=>(g y).den) h (.aF []) cb:=by
        unfold sH
        rw[aN]
        simp only[pz]
        rw[aw]
        exact⟨by rw[aL,Nat.eq_of_beq_eq_true aq],bn,trivial⟩
       exact gy.val (s:=.v (.aF [])) (A1 ab) k
     · cases U
   · cases U
 · rename_i t parts aN
   split at U
   · exact ru U
   · split at U
     · rename_i z aP aL hu
       split at U
       · rename_i cs h1 aa ao
         obtain⟨bl,k⟩:=vp _ ao U
         have hf:=Bw _ _ _ aa bl
         rw[show au.bu (z.cells.map jY)=z.cells by rw[jZ,List.map_map,show au.den∘jY=id from funext vn,List.map_id],List.map_map] at hf
         exact gy.val (s:=.dz cs) (by simp only[bV,aN,aL,hu,h1];exact by rw[show(parts.toList.map λp=>(p.1,(g p.2).den))=parts.toList.map ((λp=>(p.1,au.den p.2))∘ λp=>(p.1,g p.2)) from rfl,hf];rfl) (rq k)
       · cases U
     · cases U
 · rename_i t len parts aN
   split at U
   · exact ru U
   · obtain⟨e,sz,z,cs,hu,ae,aL,h1,hf,ab,k⟩:=Gc U
     rw[Gd] at hf
     exact gy.val (s:=.v (.slice h.n 0 len (.exact len))) (by simp only[bV,aN,hu,ae,aL,h1,hf,newRow,ab];rfl) k
 · rename_i e x aN
   obtain⟨aw,ar,k⟩:=Bv (au.ks U)
   exact gy.val (s:=.v (.ptr h.n 0)) (by simp only[bV,aN,newRow,aw,ar];rfl) k
 · rename_i c aN
   split at U
   · rename_i hF
     split at U
     · rename_i a t aH bd
       obtain⟨n,e,k⟩:=U
       have fG:c.args.toList.map (λy=>(g y).den)=[a]:=by
        have:(c.args.toList.map g).map au.den=[a]:=by rw[aH];rfl
        rw[List.map_map] at this;exact this
       have ab:jv P o (λy=>(g y).den) h (.int .i64 (.ofNat n)):=by
        unfold jv
        rw[aN]
        simp only[hF,fG,bd]
        exact e
       exact gy.val (s:=.v (.int .i64 (.ofNat n))) (pr ab) k
     · exact ru U
   · exact ru U
 · exact ru U
end
def keyOf(gS i:Nat)(o:Oper):Nat:=match o.dst with
 |some t=>t
 |none=>3000+50*gS+i
section
variable (P:Program) (need:Nat)
def jC(m:Nat)(env:List au)(Γ:ck)(loc:List (Nat×Acc))(x:Operand):au:=match iO m env Γ (bM P need loc x) with
 |some s=>s
 |none=>.v .bad
def ym(m:Nat)(env:List au)(Γ:ck)(loc:List (Nat×Acc))(o:Oper):Bool:=o.op.operands.toList.all λx=>(iO m env Γ (bM P need loc x)).isSome
def yn(dI:Option Bool)(gd:Option (Acc×Bool))(m:Nat)(env:List au)(Γ:ck)(s0 dh:List au->ck->b6):b6:=match gd with
 |none=>s0 env Γ
 |some (a,b)=>match iO m env Γ a with
  |none=>bad "guard"
  |some s=>match s with
   |.v (.aF [])=>dh env Γ
   |s=>s.nq dI (pw (sX m a .iw env) λenv=>lY (rh a .iw Γ) λΓ=>(match b with|true=>s0 env Γ|false=>dh env Γ)) (pw (sX m a .ix env) λenv=>lY (rh a .ix Γ) λΓ=>(match b with|true=>dh env Γ|false=>s0 env Γ))
variable (inR:Bool) (call:cJ)
def vq(pl:h0)(key m:Nat)(env:List au)(Γ:ck)(loc:List (Nat×Acc))(o:Oper)(d:List bo)(q:aJ)(h:J)(K:List au->ck->nr)(c4:ck->ns):b6:=match o.op with
 |.pick c a b=>match iO m env Γ (bM P need loc c) with
  |none=>bad "pick"
  |some s=>s.nq (yi (ri (2000+key) pl)) (pw (sX m (bM P need loc c) .iw env) λdE=>lY (rh (bM P need loc c) .iw Γ) λcg=>(jC P need m env Γ loc a).kr λx=>K dE cg x d q h) (pw (sX m (bM P need loc c) .ix env) λdE=>lY (rh (bM P need loc c) .ix Γ) λcg=>(jC P need m env Γ loc b).kr λx=>K dE cg x d q h)
 |_=>Bs P inR call (ri key pl) o (jC P need m env Γ loc) d q h (K env Γ) (c4 Γ)
def vr(pl:h0)(gS:Nat):List Step->List au->ck->List bo->aJ->J->(List au->ck->List bo->aJ->J->b6)->(I->ck->List bo->aJ->J->b6)->b6
 |[],env,Γ,d,q,h,K,_=>K env Γ d q h
 |s::rest,env,Γ,d,q,h,K,c4=>match ym P need s.m env Γ s.loc s.o with
  |false=>bad ("an operand " ++s.o.pos)
  |true=>yn (yi (ri (1000+keyOf gS s.m s.o) pl)) s.guard s.m env Γ
   (λenv Γ=>vq P need inR call pl (keyOf gS s.m s.o) s.m env Γ s.loc s.o d q h (λenv Γ v d q h=>vr pl gS rest (v::env) Γ d q h K c4) (λΓ v d q h=>c4 v Γ d q h))
   (λenv Γ=>vr pl gS rest (.v (.aF [])::env) Γ d q h K c4)
def rv(t:Nat):ck->ck
 |[]=>[]
 |(u,s)::l=>match Nat.beq t u with
  |true=>rv t l
  |false=>(u,s)::rv t l
def ry(m:Nat)(env:List au)(e9:ck):List (Nat×Acc)->ck->ck
 |[],Γ=>Γ
 |(t,a)::l,Γ=>match Nat.testBit need t with
  |true=>match iO m env e9 a with
   |some s=>(t,s)::rv t (ry m env e9 l Γ)
   |none=>rv t (ry m env e9 l Γ)
  |false=>ry m env e9 l Γ
def vt:List (Nat×Acc)->ck->ck
 |[],Γ=>Γ
 |(t,_)::l,Γ=>rv t (vt l Γ)
abbrev k_:=List (Nat×Nat×J×Nat)
def gT:k_->lV
 |[]=>[]
 |(e,m,h,_)::l=>(e,m,h)::gT l
def yo(o:Oper)(g:Operand->au):Bool:=match o.op with
 |.move _|.assign _|.pick .. |.build .. |.nilCheck _|.makeInterface .. |.makeFunc .. |.fieldAddr .. |.field .. |.indexAddr .. |.index .. |.extract .. |.typeAssert .. =>true
 |.unOp .. =>true
 |.binOp _ _ x y _=>match g x,g y with
  |.v (.int _ _),.v (.int _ _)=>true
  |.v (.str _),.v (.str _)=>true
  |x,y=>x.q_&&y.q_
 |.call c=>match c.callee with
  |.builtin .len=>match c.argTypes[0]? with
   |some t=>match P.underlying t with
    |some (.slice _)=>true
    |some .string=>true
    |_=>false
   |none=>false
  |_=>false
 |_=>false
def s3:List au->b6->b6
 |[],K=>K
 |.o a::l,K=>eD (a.sound=true) (s3 l K)
 |s::l,K=>match s.den.sound with
  |true=>s3 l K
  |false=>bad "sound"
def Bx:au->b6->b6
 |.o a,K=>eD (a.sound=true) K
 |.iw,K|.ix,K|.lt _ _,K|.le _ _,K|.eq _ _,K|.bk _,K=>K
 |.v a,K=>match a.sound with
  |true=>K
  |false=>bad "sound"
 |.dz l,K=>s3 l K
 |.ev l,K=>match nh (au.bu l) with
  |true=>K
  |false=>bad "sound"
def s4(s:DStep)(fp:Nat):Option Nat->J->Nat->k_->List (Option (J×Option Nat))
 |nx,h,bU,aV=>
  (match n_ s nx (gT aV) with
   |true=>[]
   |false=>[match Nat.beq bU fp with|true=>none|false=>some (h,nx)])++
  (match aV with
   |[]=>[]
   |(e,_,ai,jD)::rest=>s4 s fp (some e) ai jD rest)
def By(ops:Array Oper)(n:Nat)(env:List au)(Γ:ck)(s:DStep):Option (Nat×TypeId×I×I×Nat×I):=match s.o.op with
 |.convert _ _ x=>match bM P need s.loc x with
  |.env j=>match Nat.testBit s.dF j,nth j (dR ops.toList 0 [] []),iO n env Γ (.env j) with
   |true,some aD,some (.v (.slice b off m cp))=>match aD.o.op,hg P need ops aD.loc aD.o with
    |.makeSlice t l c,none=>match iO n env Γ (bM P need aD.loc l),iO n env Γ (bM P need aD.loc c) with
     |some jO,some Gf=>some (j,t,jO.den,Gf.den,b,.slice b off m cp)
     |_,_=>none
    |_,_=>none
   |_,_,_=>none
  |_=>none
 |_=>none
def od(o:Oper)(g:Operand->I)(v:I)(nu:Bool)(w:Option (Nat×TypeId×I×I×Nat×I)):List (Option (J×Option Nat))->b6->b6
 |[],K=>K
 |none::l,K=>od o g v nu w l K
 |some (h,nx)::l,K=>match nu with
  |true=>od o g v nu w l K
  |false=>match w,nx with
   |some (j,t,a,c,b,x),some e=>match Nat.blt e j with
    |true=>e_ λz:b2=>eD (ng P t a c b=some (x,z)) (eD (jv P o g (h.set b (some z)) v) (od o g v nu w l K))
    |false=>eD (jv P o g h v) (od o g v nu w l K)
   |_,_=>eD (jv P o g h v) (od o g v nu w l K)
def j0(ops:Array Oper)(n:Nat)(env:List au)(cV:List Nat)(Γ:ck)(last:Option Nat)(h:J)(bU:Nat)(aV:k_):List DStep->b6->b6
 |[],K=>K
 |s::rest,K=>match Nat.blt s.i n,kindOf P s.o.op with
  |true,.pure=>match rb (n-1-s.i) env,nth (n-1-s.i) cV with
   |some v,some fp=>match s4 s fp last h bU aV with
    |[]=>j0 ops n env cV Γ last h bU aV rest K
    |l=>match v with
     |.v (.aF [])=>match hg P need ops s.loc s.o with
      |some (a,b)=>match iO n env Γ a with
       |some (.v (.aF []))=>j0 ops n env cV Γ last h bU aV rest K
       |some .iw=>match b with
        |false=>j0 ops n env cV Γ last h bU aV rest K
        |true=>bad "look"
       |some .ix=>match b with
        |true=>j0 ops n env cV Γ last h bU aV rest K
        |false=>bad "look"
       |_=>bad "look"
      |none=>bad "look"
     |v=>Bx v (od P s.o (λx=>(jC P need n env Γ s.loc x).den) v.den (yo P s.o (jC P need n env Γ s.loc)) (By P need ops n env Γ s) l (j0 ops n env cV Γ last h bU aV rest K))
   |_,_=>bad "look"
  |_,_=>j0 ops n env cV Γ last h bU aV rest K
def Bz(op:Op)(g:Operand->au)(b:Nat)(K:au->b2->b6):b6:=match op with
 |.box e x=>(g x).kr λs=>sY s (K (.v (.ptr b 0)) (.cells (rj s) e .own 0 0))
 |.makeSlice t l c=>match ez (g l).den with
  |some jP=>e_ λz:b2=>eD (ng P t (g l).den (g c).den b=some (.slice b 0 jP (match ez (g c).den with|some c'=>.exact c'|none=>.dead),z)) (K (.v (.slice b 0 jP (match ez (g c).den with|some c'=>.exact c'|none=>.dead))) z)
  |none=>bad "makeSlice"
 |.buildSlice t len parts=>match(lZ (parts.toList.map λp=>(p.1,g p.2))).any au.Bq with
  |true=>yj P t len (parts.toList.map λp=>(p.1,g p.2)) λe cs=>K (.v (.slice b 0 len (.exact len))) (.cells (au.bu cs) e .own 0 0)
  |false=>match gI P (.buildSlice t len parts) (λx=>(g x).den) b with
   |some (v,o)=>K (.v v) o
   |none=>bad "alloc"
 |op=>match gI P op (λx=>(g x).den) b with
  |some (v,o)=>K (.v v) o
  |none=>bad "alloc"
abbrev pA:=List au->List Nat->ck->List bo->aJ->J->Nat->k_->b6
def pB(pl:h0)(gS:Nat)(ops:Array Oper)(bW:Nat):List DStep->List au->List Nat->ck->List bo->aJ->J->Nat->k_->pA->(I->pA)->b6
 |[],env,cV,Γ,d,q,h,bU,aV,K,_=>K env cV Γ d q h bU aV
 |s::rest,env,cV,Γ,d,q,h,bU,aV,K,c4=>match ym P need s.i env Γ s.loc s.o with
  |false=>bad ("an operand " ++s.o.pos)
  |true=>yn (yi (ri (1000+keyOf gS s.i s.o) pl)) (hg P need ops s.loc s.o) s.i env Γ
   (λenv Γ=>match kindOf P s.o.op with
    |.alloc=>Bz P s.o.op (jC P need s.i env Γ s.loc) (bW+s.i) λv o=>pB pl gS ops bW rest (v::env) (bU::cV) Γ d q (h.set (bW+s.i) (some o)) (bU+1) aV K c4
    |.pure=>vq P need inR call pl (keyOf gS s.i s.o) s.i env Γ s.loc s.o d q h (λenv Γ v _ _ _=>pB pl gS ops bW rest (v::env) (bU::cV) Γ d q h bU aV K c4) (λ_ _ _ _ _=>bad "a panic")
    |.dk=>match qV s (gT aV) with
     |false=>bad "order"
     |true=>vq P need inR call pl (keyOf gS s.i s.o) s.i env Γ s.loc s.o d q h (λenv Γ v d' aR ai=>pB pl gS ops bW rest (v::env) (bU::cV) Γ d' aR ai (bU+1) ((s.i,s.dF,h,bU)::aV) K c4)
      (λΓ v d' aR ai=>match rest.all (λaD=>Nat.testBit aD.dF s.i) with
       |true=>c4 v env cV Γ d' aR ai (bU+1) ((s.i,s.dF,h,bU)::aV)
       |false=>bad "panic"))
   (λenv Γ=>match kindOf P s.o.op with
    |.dk=>match qV s (gT aV) with
     |false=>bad "order"
     |true=>pB pl gS ops bW rest (.v (.aF [])::env) (bU::cV) Γ d q h bU ((s.i,s.dF,h,bU)::aV) K c4
    |_=>pB pl gS ops bW rest (.v (.aF [])::env) (bU::cV) Γ d q h bU aV K c4)
end
section
variable {P:Program} {need:Nat} {inR:Bool} {call:cJ}
theorem BA{m:Nat}{env:List au}{Γ:ck}{loc:List (Nat×Acc)}{x:Operand}:(jC P need m env Γ loc x).den=(fx m (au.bu env) (b3 Γ) (bM P need loc x)).getD .bad:=by
 rw[<-rn]
 unfold jC
 split<;>rename_i h<;>rw[h]<;>rfl
theorem Gg{m:Nat}{env:List au}{Γ:ck}{loc:List (Nat×Acc)}{o:Oper}(h:ym P need m env Γ loc o=true):∀x∈o.op.operands,(fx m (au.bu env) (b3 Γ) (bM P need loc x)).isSome=true:=by
 intro x U
 unfold ym at h
 rw[List.all_eq_true] at h
 have:=h x (by simpa using U)
 rw[<-rn,Option.isSome_map];exact this
theorem BB{r:aC}{G:Env}(hm:Mod r G){m:Nat}{l:List I}{loc:List (Nat×Acc)}{o:Oper}(h:∀x∈o.op.operands,(fx m l G (bM P need loc x)).isSome=true):∀x∈o.op.operands,b9 m l r (bM P need loc x)=(fx m l G (bM P need loc x)).getD .bad:=by
 intro x U
 obtain⟨v,aI⟩:=Option.isSome_iff_exists.1 (h x U)
 rw[rp hm aI,aI];rfl
def mO(m:Nat)(l:List I)(G:Env)(gd:Option (Acc×Bool))(W:Bool):Prop:=match gd with
 |none=>W=true
 |some (a,b)=>∃vu,fx m l G a=some vu/\c8 (some (vu,b))=some W
theorem mO.ok{m:Nat}{l:List I}{G:Env}{gd:Option (Acc×Bool)}{W:Bool}(h:mO m l G gd W){r:aC}(hm:Mod r G):c8 (gd.map λx=>(b9 m l r x.1,x.2))=some W:=by
 cases gd with
 |none=>cases h;rfl
 |some x=>
  obtain⟨vu,h1,aa⟩:=h
  simp only[Option.map_some,rp hm h1,aa]
theorem mO.more{m:Nat}{l:List I}{G:Env}{gd:Option (Acc×Bool)}{W:Bool}(h:mO m l G gd W)(x:I):mO (m+1) (x::l) G gd W:=by
 cases gd with
 |none=>exact h
 |some y=>
  obtain⟨vu,h1,aa⟩:=h
  exact⟨vu,vo x h1,aa⟩
theorem Gh{dI:Option Bool}{gd:Option (Acc×Bool)}{m:Nat}{env:List au}{Γ:ck}{s0 dh:List au->ck->b6}(h:(yn dI gd m env Γ s0 dh).p):
  ∃dE cg,au.bu dE=au.bu env/\b3 cg=b3 Γ/\dE.length=env.length/\(((s0 dE cg).p/\mO m (au.bu env) (b3 Γ) gd true)\/((dh dE cg).p/\mO m (au.bu env) (b3 Γ) gd false)):=by
 unfold yn at h
 split at h
 · exact⟨env,Γ,rfl,rfl,rfl,.inl ⟨h,rfl⟩⟩
 · rename_i a b
   split at h
   · cases h
   · rename_i s ae
     have eM:fx m (au.bu env) (b3 Γ) a=some s.den:=by rw[<-rn,ae];rfl
     split at h
     · exact⟨env,Γ,rfl,rfl,rfl,.inr ⟨h,_,eM,rfl⟩⟩
     · obtain⟨ad,U⟩:=yl _ h
       have al:=au.nt ad
       rcases U with⟨bd,hk⟩|⟨bd,hk⟩
       · rw[bd] at al
         obtain⟨aw,ar,bn⟩:=sZ (x:=.iw) ae al
         refine⟨_,_,aw,ar,bn,?_⟩
         have hk:=mN (rq hk)
         cases b with
         |true=>exact .inl ⟨hk,_,eM,by rw[al];rfl⟩
         |false=>exact .inr ⟨hk,_,eM,by rw[al];rfl⟩
       · rw[bd] at al
         obtain⟨aw,ar,bn⟩:=sZ (x:=.ix) ae al
         refine⟨_,_,aw,ar,bn,?_⟩
         have hk:=mN (rq hk)
         cases b with
         |true=>exact .inr ⟨hk,_,eM,by rw[al];rfl⟩
         |false=>exact .inl ⟨hk,_,eM,by rw[al];rfl⟩
theorem BC{pl:h0}{key m:Nat}{env:List au}{Γ:ck}{loc:List (Nat×Acc)}{o:Oper}{d:List bo}{q:aJ}{h:J}{K:List au->ck->nr}{c4:ck->ns}(U:(vq P need inR call pl key m env Γ loc o d q h K c4).p):
  ∃dE cg,au.bu dE=au.bu env/\b3 cg=b3 Γ/\dE.length=env.length/\gy (c5 P inR call none o (λx=>(fx m (au.bu env) (b3 Γ) (bM P need loc x)).getD .bad) d q h) (K dE cg) (c4 cg):=by
 have aj:(λx=>(fx m (au.bu env) (b3 Γ) (bM P need loc x)).getD .bad)=λx=>(jC P need m env Γ loc x).den:=funext λx=>BA.symm
 unfold vq at U
 split at U
 · rename_i c a b aN
   split at U
   · cases U
   · rename_i s ae
     obtain⟨ad,bc⟩:=yl _ U
     have al:=au.nt ad
     have x4:(jC P need m env Γ loc c).den=s.den:=by unfold jC;rw[ae]
     rw[aj]
     rcases bc with⟨bd,hk⟩|⟨bd,hk⟩
     · rw[bd] at al
       obtain⟨aw,ar,bn⟩:=sZ (x:=.iw) ae al
       exact⟨_,_,aw,ar,bn,gy.val (s:=jC P need m env Γ loc a) (by simp only[bV,aN,x4,al]) (au.ks (mN (rq hk)))⟩
     · rw[bd] at al
       obtain⟨aw,ar,bn⟩:=sZ (x:=.ix) ae al
       exact⟨_,_,aw,ar,bn,gy.val (s:=jC P need m env Γ loc b) (by simp only[bV,aN,x4,al]) (au.ks (mN (rq hk)))⟩
 · rw[aj]
   exact⟨env,Γ,rfl,rfl,rfl,Nv U⟩
theorem BD{r:aC}{s:Step}{rest:List Step}{env:List I}{d:List bo}{q:aJ}{h:J}:gH P need inR call r (s::rest) env d q h=match c5 P inR call (s.guard.map λx=>(b9 s.m env r x.1,x.2)) s.o (λx=>b9 s.m env r (bM P need s.loc x)) d q h with
  |.ok v d' aR ai=>gH P need inR call r rest (v::env) d' aR ai
  |.bm v d' aR ai=>.bm v d' aR ai
  |.fail w=>.fail w:=by
 obtain⟨gd,o,loc,m⟩:=s
 cases gd<;>rfl
theorem BE{pl:h0}{gS:Nat}:∀(l:List Step) (env:List au) (Γ:ck) (d:List bo) (q:aJ) (h:J) {K:List au->ck->List bo->aJ->J->b6} {c4:I->ck->List bo->aJ->J->b6},(vr P need inR call pl gS l env Γ d q h K c4).p->
  (∃dE cg d' aR ai,(∀r,Mod r (b3 Γ)->gH P need inR call r l (au.bu env) d q h=.ok (au.bu dE) d' aR ai)/\b3 cg=b3 Γ/\(K dE cg d' aR ai).p)\/∃v cg d' aR ai,(∀r,Mod r (b3 Γ)->gH P need inR call r l (au.bu env) d q h=.bm v d' aR ai)/\b3 cg=b3 Γ/\(c4 v cg d' aR ai).p
 |[],env,Γ,d,q,h,K,c4,U=>.inl ⟨env,Γ,d,q,h,λ_ _=>rfl,rfl,U⟩
 |s::rest,env,Γ,d,q,h,K,c4,U=>by
  simp only[vr] at U
  split at U
  · cases U
  · rename_i hk
    have gZ:∀r,Mod r (b3 Γ)->∀gd,c5 P inR call gd s.o (λx=>b9 s.m (au.bu env) r (bM P need s.loc x)) d q h=c5 P inR call gd s.o (λx=>(fx s.m (au.bu env) (b3 Γ) (bM P need s.loc x)).getD .bad) d q h:=λr hm gd=>qM (BB hm (Gg hk))
    obtain⟨l0,fo,aw,ar,bn,hw⟩:=Gh U
    rcases hw with⟨hw,nv⟩|⟨hw,nv⟩
    · obtain⟨mP,gj,f1,f2,f3,aN⟩:=BC hw
      rw[aw,ar] at aN
      rcases aN with⟨x,d1,aK,h1,he,gz⟩|⟨v,d1,aK,h1,he,gz⟩
      · have a7:=BE rest (x::mP) gj d1 aK h1 gz
        have key:∀r,Mod r (b3 Γ)->gH P need inR call r (s::rest) (au.bu env) d q h=gH P need inR call r rest (au.bu (x::mP)) d1 aK h1:=λr hm=>by
         rw[BD,gZ r hm,sL (nv.ok hm),he]
         simp only[au.bu,f1,aw]
        rw[f2,ar] at a7
        rcases a7 with⟨dE,cg,d',aR,ai,i1,i2,i3⟩|⟨v,cg,d',aR,ai,i1,i2,i3⟩
        · exact .inl ⟨dE,cg,d',aR,ai,λr hm=>(key r hm).trans (i1 r hm),i2,i3⟩
        · exact .inr ⟨v,cg,d',aR,ai,λr hm=>(key r hm).trans (i1 r hm),i2,i3⟩
      · refine .inr ⟨v,gj,d1,aK,h1,λr hm=>?_,f2.trans ar,gz⟩
        rw[BD,gZ r hm,sL (nv.ok hm),he]
    · have a7:=BE rest (.v (.aF [])::l0) fo d q h hw
      have key:∀r,Mod r (b3 Γ)->gH P need inR call r (s::rest) (au.bu env) d q h=gH P need inR call r rest (au.bu (.v (.aF [])::l0)) d q h:=λr hm=>by
       rw[BD,vc (nv.ok hm)]
       simp only[au.bu,au.den,aw]
      rw[ar] at a7
      rcases a7 with⟨dE,cg,d',aR,ai,i1,i2,i3⟩|⟨v,cg,d',aR,ai,i1,i2,i3⟩
      · exact .inl ⟨dE,cg,d',aR,ai,λr hm=>(key r hm).trans (i1 r hm),i2,i3⟩
      · exact .inr ⟨v,cg,d',aR,ai,λr hm=>(key r hm).trans (i1 r hm),i2,i3⟩
theorem vw(t:Nat):∀Γ:ck,b3 (rv t Γ)=del t (b3 Γ)
 |[]=>rfl
 |(u,s)::l=>by
  simp only[rv,b3,del]
  cases Nat.beq t u with
  |true=>exact vw t l
  |false=>simp only[b3];rw[vw t l]
theorem BF{m:Nat}{env:List au}{ff:aC}{e9:ck}(hm:Mod ff (b3 e9)):∀(l:List (Nat×Acc)) (r:aC) (Γ:ck),Mod r (b3 Γ)->Mod (mc need m (au.bu env) ff l r) (b3 (ry need m env e9 l Γ))
 |[],r,Γ,h=>h
 |(t,a)::l,r,Γ,h=>by
  have a7:=BF (m:=m) (env:=env) hm l r Γ h
  simp only[mc,ry]
  cases Nat.testBit need t with
  |false=>exact a7
  |true=>
   cases aj:iO m env e9 a with
   |some s=>
    have:fx m (au.bu env) (b3 e9) a=some s.den:=by rw[<-rn,aj];rfl
    simp only[b3,vw]
    rw[rp hm this];exact a7.put t s.den
   |none=>simp only[vw];exact a7.del t _
theorem BG:∀(l:List (Nat×Acc)) (r:aC) (Γ:ck),Mod r (b3 Γ)->Mod (r5 l r) (b3 (vt l Γ))
 |[],r,Γ,h=>h
 |(t,a)::l,r,Γ,h=>by simp only[vt,vw];exact(BG l r Γ h).del t _
theorem Gi:∀(ops:List Oper) (n:Nat) (loc:List (Nat×Acc)) (fe:List Nat) (k:Nat) (s:DStep),(dR ops n loc fe)[k]? =some s->s.i=n+k
 |[],n,loc,fe,k,s,h=>by simp[dR] at h
 |o::l,n,loc,fe,0,s,h=>by simp only[dR,List.getElem?_cons_zero,Option.some.injEq] at h;rw[<-h];rfl
 |o::l,n,loc,fe,k+1,s,h=>by
  simp only[dR,List.getElem?_cons_succ] at h
  have:=Gi l (n+1) _ _ k s h
  omega
def s5(P:Program)(need:Nat)(ops:Array Oper)(s:DStep)(n:Nat)(l:List I)(G:Env)(cV:List Nat)(H:Nat->J):Prop:=s.i<n/\(kindOf P s.o.op=.pure->(∀x∈s.o.op.operands,(fx n l G (bM P need s.loc x)).isSome=true)/\∀v fp,nth (n-1-s.i) l=some v->nth (n-1-s.i) cV=some fp->mO n l G (hg P need ops s.loc s.o) false\/(mO n l G (hg P need ops s.loc s.o) true/\∃ai,bV P s.o (λx=>(fx n l G (bM P need s.loc x)).getD .bad) (H fp)=.val v ai))
theorem Nw{α:Type}{n i:Nat}(h:i<n)(x:α)(l:List α):nth (n+1-1-i) (x::l)=nth (n-1-i) l:=by
 have:n+1-1-i=(n-1-i)+1:=by omega
 rw[this];rfl
theorem Gj{α:Type}:∀(n:Nat) (l:List α) (x:α),nth n l=some x->x∈l
 |0,[],_,h=>by cases h
 |_+1,[],_,h=>by cases h
 |0,y::l,x,h=>by cases h;exact List.mem_cons_self
 |n+1,y::l,x,h=>List.mem_cons_of_mem _ (Gj n l x h)
theorem s5.more{ops:Array Oper}{s:DStep}{n:Nat}{l:List I}{G:Env}{cV:List Nat}{H ax:Nat->J}(h:s5 P need ops s n l G cV H)(x:I)(y:Nat)(hH:∀fp∈cV,ax fp=H fp):s5 P need ops s (n+1) (x::l) G (y::cV) ax:=by
 obtain⟨h1,aa⟩:=h
 refine⟨by omega,λhk=>?_⟩
 obtain⟨bz,bZ⟩:=aa hk
 refine⟨λz aL=>?_,λv fp aI kt=>?_⟩
 · obtain⟨w,hw⟩:=Option.isSome_iff_exists.1 (bz z aL)
   rw[vo x hw];rfl
 · rw[Nw h1] at aI kt
   rcases bZ v fp aI kt with e|⟨dg,ai,e⟩
   · exact .inl (e.more x)
   · have Nx:=Gj _ _ _ kt
     refine .inr ⟨dg.more x,ai,?_⟩
     rw[hH fp Nx,<-e]
     exact uM s.o _ λz aL=>by
      obtain⟨w,hw⟩:=Option.isSome_iff_exists.1 (bz z aL)
      rw[vo x hw,hw]
end
section
variable {P:Program} {need:Nat} {inR:Bool} {call:cJ}
theorem yp:∀l:List au,(au.bu l).length=l.length
 |[]=>rfl
 |_::l=>by simp only[au.bu,List.length_cons,yp l]
structure la(P:Program)(need:Nat)(ops:Array Oper)(pre:List DStep)(env:List au)(cV:List Nat)(Γ:ck)(h:J)(bU:Nat)(aV:k_)(H:Nat->J):Prop where
 cur:H bU=h
 le:∀fp∈cV,fp<=bU
 st:∀z∈aV,z.2.2.2<=bU/\H z.2.2.2=z.2.2.1
 pl:pre.length=env.length
 seen:∀s∈pre,s5 P need ops s env.length (au.bu env) (b3 Γ) cV H
theorem la.push{ops:Array Oper}{pre:List DStep}{env dE:List au}{cV:List Nat}{Γ cg:ck}{h ai:J}{bU jD:Nat}{aV pC:k_}{H ax:Nat->J}(w:la P need ops pre env cV Γ h bU aV H){s:DStep}{v:au}(ag:s.i=env.length)(aw:au.bu dE=au.bu env)(ar:b3 cg=b3 Γ)(bn:dE.length=env.length)
  (hH:∀k,k<=bU->ax k=H k)(aI:bU<=jD)(ab:ax jD=ai)(ae:∀z∈pC,z.2.2.2<=jD/\ax z.2.2.2=z.2.2.1)
  (aZ:kindOf P s.o.op=.pure->(∀x∈s.o.op.operands,(fx s.i (au.bu env) (b3 Γ) (bM P need s.loc x)).isSome=true)/\(mO s.i (au.bu env) (b3 Γ) (hg P need ops s.loc s.o) false\/(mO s.i (au.bu env) (b3 Γ) (hg P need ops s.loc s.o) true/\∃e0,bV P s.o (λx=>(fx s.i (au.bu env) (b3 Γ) (bM P need s.loc x)).getD .bad) h=.val v.den e0))):
  la P need ops (pre++[s]) (v::dE) (bU::cV) cg ai jD pC ax:=by
 refine⟨ab,λfp kt=>?_,ae,by simp[w.pl,bn],λz aL=>?_⟩
 · rcases List.mem_cons.1 kt with rfl|kt
   · exact aI
   · exact Nat.le_trans (w.le fp kt) aI
 · rw[List.length_cons,bn,ar]
   simp only[au.bu,aw]
   rcases List.mem_append.1 aL with aL|aL
   · exact(w.seen z aL).more _ _ λfp kt=>hH fp (w.le fp kt)
   · obtain rfl:z=s:=by simpa using aL
     refine⟨by omega,λhk=>?_⟩
     obtain⟨bz,bZ⟩:=aZ hk
     rw[ag] at bz bZ
     refine⟨λx U=>?_,λu fp hu kt=>?_⟩
     · obtain⟨y,bc⟩:=Option.isSome_iff_exists.1 (bz x U)
       rw[vo _ bc];rfl
     · have ay:env.length+1-1-z.i=0:=by omega
       rw[ay] at hu kt
       cases hu;cases kt
       rcases bZ with bZ|⟨mv,e0,bZ⟩
       · exact .inl (bZ.more _)
       · refine .inr ⟨mv.more _,e0,?_⟩
         rw[hH bU (Nat.le_refl _),w.cur,<-bZ]
         exact uM _ _ λx U=>by
          obtain⟨y,bc⟩:=Option.isSome_iff_exists.1 (bz x U)
          rw[vo _ bc,bc]
theorem vx{ops:Array Oper}{r:aC}{n:Nat}{env:List I}{s:DStep}:eg P need ops r n env s=(hg P need ops s.loc s.o).map λx=>(b9 n env r x.1,x.2):=by
 unfold eg
 cases hg P need ops s.loc s.o<;>rfl
def Gk:h9->Prop
 |.val _ _=>True
 |.bm _ _=>True
 |.fail _=>True
 |_=>False
theorem Ny{o:Oper}{g:Operand->I}{H:J}(hk:kindOf P o.op=.pure):Gk (bV P o g H):=by
 have fv:∀(w:String) (x:Option I),Gk (eH H w x):=λw x=>by cases x<;>trivial
 obtain⟨dst,op,type,pos,after,guard⟩:=o
 cases op<;>simp only[kindOf] at hk<;>(try (cases hk;done))<;>unfold bV<;>simp only
 case binOp=>exact fv _ _
 case slice=>exact fv _ _
 case lookup=>exact fv _ _
 case convert s d x=>
  have cj:∀e,P.underlying d≠some (.slice e):=λe he=>by rw[he] at hk;cases hk
  unfold hQ
  repeat' (first|trivial|exact absurd (by assumption) (cj _)|split)
 case call c=>
  cases ab:c.callee with
  |value f=>rw[ab] at hk;cases hk
  |invoke r n=>rw[ab] at hk;cases hk
  |builtin b=>
   rw[ab] at hk
   cases b<;>simp only at hk<;>(try (cases hk;done))<;>simp only[hd]<;>repeat' (first|trivial|exact fv _ _|split)
 all_goals repeat' (first|trivial|exact fv _ _|split)
theorem Nz{o:Oper}{g:Operand->I}{d d1:List bo}{q aK:aJ}{h h1:J}{v:I}(hk:kindOf P o.op=.pure)(e:c5 P inR call none o g d q h=.ok v d1 aK h1):∃ai,bV P o g h=.val v ai:=by
 have aI:=Ny (P:=P) (g:=g) (H:=h) hk
 unfold c5 at e
 simp only[c8] at e
 cases aN:bV P o g h<;>rw[aN] at e aI<;>first|(exact aI.elim)|(cases e;done)|(cases e;exact⟨_,rfl⟩)
theorem NA{op:Op}{g:Operand->au}{b:Nat}{K:au->b2->b6}(h:(Bz P op g b K).p):∃s o,gI P op (λx=>(g x).den) b=some (au.den s,o)/\(K s o).p:=by
 unfold Bz at h
 split at h
 · rename_i e x
   obtain⟨aw,ar,k⟩:=Bv (au.ks h)
   exact⟨_,_,by simp only[gI,aw,ar];rfl,k⟩
 · rename_i t l c
   split at h
   · obtain⟨z,aL,k⟩:=h
     exact⟨_,_,Fp (op:=.makeSlice t l c) (v:=au.den (.v _)) aL,k⟩
   · cases h
 · rename_i t len parts
   split at h
   · obtain⟨e,sz,z,cs,hu,ae,aL,h1,hf,ab,k⟩:=Gc h
     rw[Gd] at hf
     exact⟨.v _,_,by simp only[gI,hu,ae,aL,h1,hf,ab];rfl,k⟩
   · split at h
     · rename_i v o aI
       exact⟨.v v,o,aI,h⟩
     · cases h
 · split at h
   · rename_i v o aI
     exact⟨.v v,o,aI,h⟩
   · cases h
def gu(H:Nat->J)(k:Nat)(h:J)(j:Nat):J:=if j=k then h else H j
def nw(P:Program)(need:Nat)(inR:Bool)(call:cJ)(ops:Array Oper)(bW:Nat)(full l:List DStep)(env:List au)(G:Env)(d:List bo)(q:aJ)(h:J)(aV:k_)(K:pA)(c4:I->pA):Prop:=
 (∃dE pD cg d' aR ai jD pC ax,(∀r,Mod r G->e4 P need inR call ops r bW l (au.bu env) d q h (gT aV)=.ok (au.bu dE) d' aR ai (gT pC))/\b3 cg=G/\la P need ops full dE pD cg ai jD pC ax/\(K dE pD cg d' aR ai jD pC).p)\/
 ∃v dE pD cg d' aR ai jD e m ay s6 pc ax vy,(∀r,Mod r G->e4 P need inR call ops r bW l (au.bu env) d q h (gT aV)=.bm v (au.bu dE) d' aR ai (gT ((e,m,ay,s6)::pc)))/\b3 cg=G/\la P need ops vy dE pD cg ay s6 pc ax/\(∃post,full=vy++post)/\(c4 v dE pD cg d' aR ai jD ((e,m,ay,s6)::pc)).p
theorem nw.trans{ops:Array Oper}{bW:Nat}{full l l2:List DStep}{env mP:List au}{G:Env}{d d2:List bo}{q a_:aJ}{h aa:J}{aV Gl:k_}{K:pA}{c4:I->pA}(hk:∀r,Mod r G->e4 P need inR call ops r bW l (au.bu env) d q h (gT aV)=e4 P need inR call ops r bW l2 (au.bu mP) d2 a_ aa (gT Gl))(he:nw P need inR call ops bW full l2 mP G d2 a_ aa Gl K c4):nw P need inR call ops bW full l env G d q h aV K c4:=by
 rcases he with⟨bl,a2,a3,a4,a5,hI,pE,s7,a9,dq,cd,gk,hp⟩|⟨bl,a2,a3,a4,a5,hI,pE,s7,a9,cC,cE,gr,l1,ku,BH,dq,cd,gk,hp,fV⟩
 · exact .inl ⟨bl,a2,a3,a4,a5,hI,pE,s7,a9,λr hm=>(hk r hm).trans (dq r hm),cd,gk,hp⟩
 · exact .inr ⟨bl,a2,a3,a4,a5,hI,pE,s7,a9,cC,cE,gr,l1,ku,BH,λr hm=>(hk r hm).trans (dq r hm),cd,gk,hp,fV⟩
theorem rz{ops:Array Oper}{r:aC}{bW:Nat}{s:DStep}{rest:List DStep}{env:List I}{d:List bo}{q:aJ}{h:J}{aV:lV}:e4 P need inR call ops r bW (s::rest) env d q h aV=
  match kindOf P s.o.op with
  |.alloc=>match c8 (eg P need ops r s.i env s) with
   |none=>.fail ""
   |some false=>e4 P need inR call ops r bW rest (.aF []::env) d q h aV
   |some true=>match gI P s.o.op (λx=>b9 s.i env r (bM P need s.loc x)) (bW+s.i) with
    |some (v,o)=>e4 P need inR call ops r bW rest (v::env) d q (h.set (bW+s.i) (some o)) aV
    |none=>.fail ""
  |.pure=>match c5 P inR call (eg P need ops r s.i env s) s.o (λx=>b9 s.i env r (bM P need s.loc x)) d q h with
   |.ok v _ _ _=>e4 P need inR call ops r bW rest (v::env) d q h aV
   |.bm _ _ _ _=>.fail ""
   |.fail w=>.fail w
  |.dk=>match qV s aV with
   |false=>.fail ""
   |true=>match c5 P inR call (eg P need ops r s.i env s) s.o (λx=>b9 s.i env r (bM P need s.loc x)) d q h with
    |.ok v d' aR ai=>e4 P need inR call ops r bW rest (v::env) d' aR ai ((s.i,s.dF,h)::aV)
    |.bm v d' aR ai=>match rest.all (λaD=>Nat.testBit aD.dF s.i) with
     |true=>.bm v env d' aR ai ((s.i,s.dF,h)::aV)
     |false=>.fail ""
    |.fail w=>.fail w:=by
 cases aV<;>rfl
theorem rA{pl:h0}{gS:Nat}{ops:Array Oper}{bW:Nat}{full:List DStep}(ny:∀(k:Nat) (s:DStep),full[k]? =some s->s.i=k){K:pA}{c4:I->pA}:∀(l pre:List DStep) (env:List au) (cV:List Nat) (Γ:ck) (d:List bo) (q:aJ) (h:J) (bU:Nat) (aV:k_) (H:Nat->J),full=pre++l->la P need ops pre env cV Γ h bU aV H->(pB P need inR call pl gS ops bW l env cV Γ d q h bU aV K c4).p->nw P need inR call ops bW full l env (b3 Γ) d q h aV K c4
 |[],pre,env,cV,Γ,d,q,h,bU,aV,H,hf,w,U=>by
  rw[List.append_nil] at hf
  subst hf
  exact .inl ⟨env,cV,Γ,d,q,h,bU,aV,H,λ_ _=>rfl,rfl,w,U⟩
 |s::rest,pre,env,cV,Γ,d,q,h,bU,aV,H,hf,w,U=>by
  have ag:s.i=env.length:=by
   rw[<-w.pl]
   exact ny pre.length s (by rw[hf];simp)
  have pF:full=(pre++[s])++rest:=by rw[hf];simp
  simp only[pB] at U
  split at U
  · cases U
  · rename_i hk
    have vz:=Gg hk
    have aj:∀r,Mod r (b3 Γ)->∀x∈s.o.op.operands,b9 s.i (au.bu env) r (bM P need s.loc x)=(fx s.i (au.bu env) (b3 Γ) (bM P need s.loc x)).getD .bad:=λr hm=>BB hm vz
    have gZ:∀r,Mod r (b3 Γ)->∀gd,c5 P inR call gd s.o (λx=>b9 s.i (au.bu env) r (bM P need s.loc x)) d q h=c5 P inR call gd s.o (λx=>(fx s.i (au.bu env) (b3 Γ) (bM P need s.loc x)).getD .bad) d q h:=λr hm gd=>qM (aj r hm)
    obtain⟨l0,fo,aw,ar,bn,hw⟩:=Gh U
    have fU:∀z∈aV,z.2.2.2<=bU/\H z.2.2.2=z.2.2.1:=w.st
    rcases hw with⟨hw,nv⟩|⟨hw,nv⟩
    · have pG:∀r,Mod r (b3 Γ)->c8 (eg P need ops r s.i (au.bu env) s)=some true:=λr hm=>by rw[vx];exact nv.ok hm
      split at hw
      · rename_i fI
        obtain⟨v,o,aH,gz⟩:=NA hw
        have k1:gI P s.o.op (λx=>(fx s.i (au.bu env) (b3 Γ) (bM P need s.loc x)).getD .bad) (bW+s.i)=some (v.den,o):=by
         rw[<-aH];congr 1;exact funext λx=>by rw[BA,aw,ar]
        have cf:la P need ops (pre++[s]) (v::l0) (bU::cV) fo (h.set (bW+s.i) (some o)) (bU+1) aV (gu H (bU+1) (h.set (bW+s.i) (some o))):=
         w.push ag aw ar bn (λk hk=>by unfold gu;rw[if_neg (by omega)]) (by omega) (by unfold gu;rw[if_pos rfl]) (λz aL=>by
          obtain⟨b5,z2⟩:=fU z aL
          exact⟨by omega,by unfold gu;rw[if_neg (by omega)];exact z2⟩) (λaZ=>by rw[fI] at aZ;cases aZ)
        have a7:=rA ny rest (pre++[s]) (v::l0) (bU::cV) fo d q _ (bU+1) aV _ pF cf gz
        rw[ar] at a7
        refine nw.trans (λr hm=>?_) a7
        rw[rz,fI]
        simp only[pG r hm]
        rw[uN _ _ (aj r hm),k1]
        simp only[au.bu,aw]
      · rename_i fI
        obtain⟨mP,gj,f1,f2,f3,aN⟩:=BC hw
        rw[aw,ar] at aN
        rcases aN with⟨x,d1,aK,h1,he,gz⟩|⟨v,d1,aK,h1,he,gz⟩
        · have dr:=Nz fI he
          have cf:la P need ops (pre++[s]) (x::mP) (bU::cV) gj h bU aV H:=
           w.push ag (f1.trans aw) (f2.trans ar) (f3.trans bn) (λk hk=>rfl) (Nat.le_refl _) w.cur fU (λ_=>⟨vz,.inr ⟨nv,dr⟩⟩)
          have a7:=rA ny rest (pre++[s]) (x::mP) (bU::cV) gj d q h bU aV H pF cf gz
          rw[f2,ar] at a7
          refine nw.trans (λr hm=>?_) a7
          rw[rz,fI]
          simp only
          rw[gZ r hm,sL (pG r hm),he]
          simp only[au.bu,f1,aw]
        · cases gz
      · rename_i fI
        split at hw
        · cases hw
        · rename_i jT
          obtain⟨mP,gj,f1,f2,f3,aN⟩:=BC hw
          rw[aw,ar] at aN
          rcases aN with⟨x,d1,aK,h1,he,gz⟩|⟨v,d1,aK,h1,he,gz⟩
          · have cf:la P need ops (pre++[s]) (x::mP) (bU::cV) gj h1 (bU+1) ((s.i,s.dF,h,bU)::aV) (gu H (bU+1) h1):=
              w.push ag (f1.trans aw) (f2.trans ar) (f3.trans bn) (λk hk=>by unfold gu;rw[if_neg (by omega)]) (by omega) (by unfold gu;rw[if_pos rfl]) (λz aL=>by
               rcases List.mem_cons.1 aL with rfl|aL
               · exact⟨by simp,by unfold gu;rw[if_neg (by simp)];exact w.cur⟩
               · obtain⟨b5,z2⟩:=fU z aL
                 exact⟨by omega,by unfold gu;rw[if_neg (by omega)];exact z2⟩) (λaZ=>by rw[fI] at aZ;cases aZ)
            have a7:=rA ny rest (pre++[s]) (x::mP) (bU::cV) gj d1 aK h1 (bU+1) _ _ pF cf gz
            rw[f2,ar] at a7
            refine nw.trans (λr hm=>?_) a7
            rw[rz,fI]
            simp only[jT]
            rw[gZ r hm,sL (pG r hm),he]
            simp only[au.bu,f1,aw,gT]
          · split at gz
            · rename_i dn
              refine .inr ⟨v,l0,cV,gj,d1,aK,h1,bU+1,s.i,s.dF,h,bU,aV,H,pre,λr hm=>?_,f2.trans ar,?_,⟨_,hf⟩,gz⟩
              · rw[rz,fI]
                simp only[jT]
                rw[gZ r hm,sL (pG r hm),he]
                simp only[dn,gT,aw]
              · exact⟨w.cur,w.le,w.st,w.pl.trans bn.symm,by rw[f2,ar,aw,bn];exact w.seen⟩
            · cases gz
    · have pG:∀r,Mod r (b3 Γ)->c8 (eg P need ops r s.i (au.bu env) s)=some false:=λr hm=>by rw[vx];exact nv.ok hm
      cases fI:kindOf P s.o.op with
      |dk=>
       rw[fI] at hw
       simp only at hw
       split at hw
       · cases hw
       · rename_i jT
         have cf:la P need ops (pre++[s]) (.v (.aF [])::l0) (bU::cV) fo h bU ((s.i,s.dF,h,bU)::aV) H:=
          w.push ag aw ar bn (λk hk=>rfl) (Nat.le_refl _) w.cur (λz aL=>by
           rcases List.mem_cons.1 aL with rfl|aL
           · exact⟨Nat.le_refl _,w.cur⟩
           · exact fU z aL) (λaZ=>by rw[fI] at aZ;cases aZ)
         have a7:=rA ny rest (pre++[s]) (.v (.aF [])::l0) (bU::cV) fo d q h bU _ H pF cf hw
         rw[ar] at a7
         refine nw.trans (λr hm=>?_) a7
         rw[rz,fI]
         simp only[jT]
         rw[vc (pG r hm)]
         simp only[au.bu,au.den,aw,gT]
      |alloc=>
       rw[fI] at hw
       simp only at hw
       have cf:la P need ops (pre++[s]) (.v (.aF [])::l0) (bU::cV) fo h bU aV H:=
        w.push ag aw ar bn (λk hk=>rfl) (Nat.le_refl _) w.cur fU (λaZ=>by rw[fI] at aZ;cases aZ)
       have a7:=rA ny rest (pre++[s]) (.v (.aF [])::l0) (bU::cV) fo d q h bU aV H pF cf hw
       rw[ar] at a7
       refine nw.trans (λr hm=>?_) a7
       rw[rz,fI]
       simp only[pG r hm]
       simp only[au.bu,au.den,aw]
      |pure=>
       rw[fI] at hw
       simp only at hw
       have cf:la P need ops (pre++[s]) (.v (.aF [])::l0) (bU::cV) fo h bU aV H:=
        w.push ag aw ar bn (λk hk=>rfl) (Nat.le_refl _) w.cur fU (λ_=>⟨vz,.inl nv⟩)
       have a7:=rA ny rest (pre++[s]) (.v (.aF [])::l0) (bU::cV) fo d q h bU aV H pF cf hw
       rw[ar] at a7
       refine nw.trans (λr hm=>?_) a7
       rw[rz,fI]
       simp only
       rw[vc (pG r hm)]
       simp only[au.bu,au.den,aw]
end
section
variable {P:Program} {need:Nat} {inR:Bool} {call:cJ}
theorem NB{o:Oper}{g:Operand->au}(aq:yo P o g=true){h h1:J}{v:I}(e:bV P o (λx=>(g x).den) h=.val v h1)(ai:J):∃aa,bV P o (λx=>(g x).den) ai=.val v aa:=by
 have fv:∀{w:String} {x:Option I},eH h w x=.val v h1->∃aa,eH ai w x=.val v aa:=λ{w x} e=>by
  cases x with
  |none=>cases e
  |some y=>cases e;exact⟨_,rfl⟩
 obtain⟨dst,op,type,pos,after,guard⟩:=o
 cases op<;>simp only[yo] at aq<;>(try (cases aq;done))<;>unfold bV at e⊢ <;>simp only at e⊢
 case binOp op t x y yt=>
  split at aq
  · rename_i k a gn b U bc
    rw[U,bc] at e⊢
    simp only[au.den,eo] at e⊢
    exact fv e
  · rename_i a b U bc
    rw[U,bc] at e⊢
    simp only[au.den,eo] at e⊢
    exact fv e
  · rw[Bool.and_eq_true] at aq
    rw[au.nt aq.1,au.nt aq.2] at e⊢
    have af:eo P ai op t x y (.bool (g x).je) (.bool (g y).je)=eo P h op t x y (.bool (g x).je) (.bool (g y).je):=by
     simp only[eo,gG]
    rw[af];exact fv e
 case call c=>
  split at aq
  · rename_i ab
    rw[ab] at e⊢
    simp only[hd] at e⊢
    split at aq
    · rename_i t bd
      rw[bd] at e⊢
      cases fG:c.args.toList.map λx=>(g x).den with
      |nil=>rw[fG] at e;cases e
      |cons x l=>
       rw[fG] at e
       cases l with
       |nil=>
        simp only at e⊢
        split at aq
        · rename_i el hu
          simp only[gX,hu] at e⊢
          cases x<;>simp only at e⊢ <;>exact fv e
        · rename_i hu
          simp only[gX,hu] at e⊢
          cases x<;>simp only at e⊢ <;>exact fv e
        · cases aq
       |cons y l=>
        cases l with
        |nil=>simp only at e;cases e
        |cons z l=>simp only at e;cases e
    · cases aq
  · cases aq
 case typeAssert=>repeat' (first|contradiction|exact fv e|(cases e;done)|(cases e;exact⟨_,rfl⟩)|(cases e;simp_all;done)|split at e)
 all_goals repeat' (first|contradiction|exact fv e|(cases e;exact⟨_,rfl⟩)|(rw[if_pos (by assumption)];first|exact fv e|(cases e;exact⟨_,rfl⟩))|(cases e;done)|split at e)
theorem Gm{K:b6}:∀(l:List au),(s3 l K).p->nh (au.bu l)=true/\K.p
 |[],h=>⟨rfl,h⟩
 |s::l,h=>by
  have key:s.den.sound=true/\(s3 l K).p:=by
   cases s<;>simp only[s3] at h<;>first|exact h|(split at h<;>first|exact⟨by assumption,h⟩|cases h)
  obtain⟨bz,bZ⟩:=Gm l key.2
  exact⟨by simp only[au.bu,nh,key.1,bz,Bool.and_true],bZ⟩
theorem Gn{s:au}{K:b6}(h:(Bx s K).p):s.den.sound=true/\K.p:=by
 cases s<;>simp only[Bx] at h<;>first|exact⟨rfl,h⟩|exact h|skip
 all_goals first
  |exact Gm _ h
  |(split at h
    · rename_i ae;exact⟨ae,h⟩
    · cases h)
theorem vA{o:Oper}{g:Operand->I}{v:I}{nu:Bool}{w:Option (Nat×TypeId×I×I×Nat×I)}{K:b6}:∀(l:List (Option (J×Option Nat))),(od P o g v nu w l K).p->K.p/\(nu=false->∀h nx,some (h,nx)∈l->jv P o g h v\/∃j t a c b x e z,w=some (j,t,a,c,b,x)/\nx=some e/\e<j/\ng P t a c b=some (x,z)/\jv P o g (h.set b (some z)) v)
 |[],h=>⟨h,λ_ _ _ hm=>by cases hm⟩
 |none::l,h=>by
  obtain⟨h1,aa⟩:=vA l h
  exact⟨h1,λaB ai nx hm=>by
   rcases List.mem_cons.1 hm with e|hm
   · cases e
   · exact aa aB ai nx hm⟩
 |some (x,NC)::l,h=>by
  simp only[od] at h
  cases nu with
  |true=>
   obtain⟨h1,aa⟩:=vA l h
   exact⟨h1,λaB=>by cases aB⟩
  |false=>
   have key:(od P o g v false w l K).p/\(jv P o g x v\/∃j t a c b y e z,w=some (j,t,a,c,b,y)/\NC=some e/\e<j/\ng P t a c b=some (y,z)/\jv P o g (x.set b (some z)) v):=by
    simp only at h
    split at h
    · rename_i j t a c b y e
      split at h
      · rename_i ad
        obtain⟨z,h1,aa,ao⟩:=h
        exact⟨ao,.inr ⟨j,t,a,c,b,y,e,z,rfl,rfl,(by rw[Nat.blt_eq] at ad;exact ad),h1,aa⟩⟩
      · exact⟨h.2,.inl h.1⟩
    · exact⟨h.2,.inl h.1⟩
   obtain⟨h1,aa⟩:=vA l key.1
   exact⟨h1,λaB ai nx hm=>by
    rcases List.mem_cons.1 hm with e|hm
    · cases e;exact key.2
    · exact aa aB ai nx hm⟩
theorem Gp{ops:Array Oper}{r:aC}{n:Nat}{env:List I}{s:DStep}{v:I}{fp:Nat}{H:Nat->J}:∀(aV:k_) (nx:Option Nat) (h:J) (bU:Nat),H bU=h->(∀z∈aV,H z.2.2.2=z.2.2.1)->(∀o∈s4 s fp nx h bU aV,(match o with|none=>fC P need ops r n env s v (H fp)=true|some (h,nx)=>fC P need ops r n env s v h=true\/fC P need ops r n env s v (kM P need ops r n env s nx h)=true))->jk P need ops r n env s v nx h (gT aV)=true
 |[],nx,h,bU,af,ae,aq=>by
  simp only[gT]
  rw[x5]
  simp only[s4] at aq
  cases ad:n_ s nx [] with
  |true=>rfl
  |false=>
   rw[show n_ s nx (gT [])=false from ad] at aq
   simp only[Bool.and_true]
   cases aI:Nat.beq bU fp with
   |true=>
    have:=aq none (by rw[aI];simp)
    obtain rfl:=Nat.eq_of_beq_eq_true aI
    simp only[af] at this
    rw[this,Bool.true_or]
   |false=>exact Bool.or_eq_true _ _▸aq (some (h,nx)) (by rw[aI];simp)
 |(e,m,ai,jD)::rest,nx,h,bU,af,ae,aq=>by
  simp only[gT]
  rw[x5]
  simp only[s4] at aq
  have a7:=Gp (ops:=ops) (r:=r) (n:=n) (env:=env) (v:=v) rest (some e) ai jD (ae _ List.mem_cons_self) (λz aL=>ae z (List.mem_cons_of_mem _ aL)) λo aN=>aq o (List.mem_append.2 (.inr aN))
  simp only[]
  rw[a7,Bool.and_true]
  cases ad:n_ s nx ((e,m,ai)::gT rest) with
  |true=>rfl
  |false=>
   rw[show n_ s nx (gT ((e,m,ai,jD)::rest))=false from ad] at aq
   simp only
   cases aI:Nat.beq bU fp with
   |true=>
    have:=aq none (List.mem_append.2 (.inl (by rw[aI];simp)))
    obtain rfl:=Nat.eq_of_beq_eq_true aI
    simp only[af] at this
    rw[this,Bool.true_or]
   |false=>exact Bool.or_eq_true _ _▸aq (some (h,nx)) (List.mem_append.2 (.inl (by rw[aI];simp)))
theorem ND{ops:Array Oper}{r:aC}{n:Nat}{env:List au}{Γ:ck}(hm:Mod r (b3 Γ)){s:DStep}{j e b:Nat}{t:TypeId}{a c x:I}{z:b2}{h:J}(hw:By P need ops n env Γ s=some (j,t,a,c,b,x))(BI:e<j)(uo:ng P t a c b=some (x,z)):
  kM P need ops r n (au.bu env) s (some e) h=h.set b (some z):=by
 have eM:∀{y:au} {acc:Acc},iO n env Γ acc=some y->b9 n (au.bu env) r acc=y.den:=λ{y} {acc} bc=>by
  have:fx n (au.bu env) (b3 Γ) acc=some y.den:=by rw[<-rn,bc];rfl
  exact rp hm this
 unfold By at hw
 split at hw
 · rename_i src dst u dH
   split at hw
   · rename_i hi aG
     split at hw
     · rename_i aD ib off m cp ad cZ aI
       split at hw
       · rename_i BJ l c' aN aj
         split at hw
         · rename_i jO Gf aq ab
           cases hw
           have e7:gI P (.makeSlice t l c') (λy=>b9 n (au.bu env) r (bM P need aD.loc y)) b=some (.slice b off m cp,z):=by
            rw[<-uo,<-eM aq,<-eM ab]
            rfl
           have dN:eg P need ops r n (au.bu env) aD=none:=by unfold eg;rw[aj]
           have pH:(Nat.blt e j&&Nat.testBit s.dF j)=true:=by rw[ad,Bool.and_true,Nat.blt_eq];exact BI
           unfold kM
           simp only[dH,aG,pH,cZ,aN,eM aI,au.den,dN,c8,e7]
         · cases hw
       · cases hw
     · cases hw
   · cases hw
 · cases hw
theorem BK{ops:Array Oper}{r:aC}{n:Nat}{env:List au}{cV:List Nat}{Γ:ck}(hm:Mod r (b3 Γ)){last:Option Nat}{h:J}{bU:Nat}{aV:k_}{H:Nat->J}(hH:H bU=h)(b0:∀z∈aV,H z.2.2.2=z.2.2.1){K:b6}:∀(l:List DStep),(∀s∈l,s.i<n->s5 P need ops s n (au.bu env) (b3 Γ) cV H)->(j0 P need ops n env cV Γ last h bU aV l K).p->jM P need ops r n (au.bu env) last h (gT aV) l=true
 |[],_,_=>rfl
 |s::rest,ae,U=>by
  simp only[jM]
  simp only[j0] at U
  have wO:=λ(k:(j0 P need ops n env cV Γ last h bU aV rest K).p)=>BK hm hH b0 rest (λz aL=>ae z (List.mem_cons_of_mem _ aL)) k
  split at U
  · rename_i ad fI
    have ag:s.i<n:=by simpa using ad
    obtain⟨_,NF⟩:=ae s List.mem_cons_self ag
    obtain⟨vz,kV⟩:=NF fI
    rw[ad,fI]
    simp only
    split at U
    · rename_i v fp aI kt
      have Gq:nth (n-1-s.i) (au.bu env)=some v.den:=F6 _ _ _ aI
      rw[Gq]
      simp only[Option.getD_some]
      have fin:∀(hk:(j0 P need ops n env cV Γ last h bU aV rest K).p),(∀o∈s4 s fp last h bU aV,(match o with|none=>fC P need ops r n (au.bu env) s v.den (H fp)=true|some (h,nx)=>fC P need ops r n (au.bu env) s v.den h=true\/fC P need ops r n (au.bu env) s v.den (kM P need ops r n (au.bu env) s nx h)=true))->(jk P need ops r n (au.bu env) s v.den last h (gT aV)&&jM P need ops r n (au.bu env) last h (gT aV) rest)=true:=λhk aN=>by
       rw[wO hk,Bool.and_true]
       exact Gp aV last h bU hH b0 aN
      have both:∀(o:Option (J×Option Nat)),(∀ai,fC P need ops r n (au.bu env) s v.den ai=true)->(match o with|none=>fC P need ops r n (au.bu env) s v.den (H fp)=true|some (h,nx)=>fC P need ops r n (au.bu env) s v.den h=true\/fC P need ops r n (au.bu env) s v.den (kM P need ops r n (au.bu env) s nx h)=true):=λo hw=>by
       cases o with
       |none=>exact hw _
       |some z=>exact .inl (hw _)
      split at U
      · rename_i qG
        exact fin U λo aN=>by rw[qG] at aN;cases aN
      · split at U
        ·
         have BL:c8 (eg P need ops r n (au.bu env) s)=some false->∀ai,fC P need ops r n (au.bu env) s (au.den (.v (.aF []))) ai=true:=λhw ai=>by
          unfold fC;rw[hw]
         split at U
         · rename_i a b pz
           have al:∀(x:au),iO n env Γ a=some x->eg P need ops r n (au.bu env) s=some (x.den,b):=λx U=>by
            have eM:fx n (au.bu env) (b3 Γ) a=some x.den:=by rw[<-rn,U];rfl
            rw[vx,pz]
            simp only[Option.map_some,rp hm eM]
           split at U
           · rename_i qP
             exact fin U λo _=>both o (BL (by rw[al _ qP];rfl))
           · rename_i qP
             cases b with
             |false=>exact fin U λo _=>both o (BL (by rw[al _ qP];rfl))
             |true=>cases U
           · rename_i qP
             cases b with
             |true=>exact fin U λo _=>both o (BL (by rw[al _ qP];rfl))
             |false=>cases U
           · cases U
         · cases U
        · rename_i cj
          obtain⟨BM,U⟩:=Gn U
          obtain⟨U,NG⟩:=vA _ U
          have dN:(λx=>(jC P need n env Γ s.loc x).den)=λx=>(fx n (au.bu env) (b3 Γ) (bM P need s.loc x)).getD .bad:=funext λx=>BA
          refine fin U λo aN=>?_
          rcases kV v.den fp Gq kt with e|⟨dg,e⟩
          · have hw:c8 (eg P need ops r n (au.bu env) s)=some false:=by rw[vx];exact e.ok hm
            exact both o λai=>by unfold fC;rw[hw]
          · have hw:c8 (eg P need ops r n (au.bu env) s)=some true:=by rw[vx];exact dg.ok hm
            have look:∀ai,(∃e0,bV P s.o (λx=>(jC P need n env Γ s.loc x).den) ai=.val v.den e0)->fC P need ops r n (au.bu env) s v.den ai=true:=λai ⟨e0,e⟩=>by
             have NH:bV P s.o (λx=>b9 n (au.bu env) r (bM P need s.loc x)) ai=.val v.den e0:=by
              rw[<-e,dN]
              exact uM s.o ai (BB hm vz)
             unfold fC
             simp only[hw,NH]
             exact qX _ BM
            rw[<-dN] at e
            cases o with
            |none=>exact look _ e
            |some z=>
             obtain⟨ai,nx⟩:=z
             simp only
             cases af:yo P s.o (jC P need n env Γ s.loc) with
             |true=>
              obtain⟨h1,e⟩:=e
              exact .inl (look ai (NB af e ai))
             |false=>
              rcases NG af ai nx aN with ab|⟨j,t,a,c,b,x,aw,z,NI,rfl,BI,uo,ab⟩
              · exact .inl (look ai ⟨ai,pr ab⟩)
              · right
                rw[ND hm NI BI uo]
                exact look _ ⟨_,pr ab⟩
    · cases U
  · rename_i uT
    have U:=wO U
    rw[U,Bool.and_true]
    cases ad:Nat.blt s.i n with
    |false=>rfl
    |true=>
     cases hk:kindOf P s.o.op with
     |pure=>exact absurd hk (uT ad)
     |alloc=>rfl
     |dk=>rfl
theorem BN{ops:Array Oper}{n:Nat}{env:List au}{cV:List Nat}{Γ:ck}{last:Option Nat}{h:J}{bU:Nat}{aV:k_}{K:b6}:∀(l:List DStep),(j0 P need ops n env cV Γ last h bU aV l K).p->K.p
 |[],U=>U
 |s::rest,U=>by
  have a7:(j0 P need ops n env cV Γ last h bU aV rest K).p->K.p:=λk=>BN rest k
  simp only[j0] at U
  split at U
  · split at U
    · split at U
      · exact a7 U
      · split at U
        · split at U
          · split at U
            · exact a7 U
            · split at U
              · exact a7 U
              · cases U
            · split at U
              · exact a7 U
              · cases U
            · cases U
          · cases U
        · exact a7 (vA _ (Gn U).2).1
    · cases U
  · exact a7 U
def Gr(P:Program)(need:Nat)(inR:Bool)(call:cJ)(pl:h0)(gS:Nat)(ops:Array Oper)(Γ:ck)(d:List bo)(q:aJ)(h:J)(K:bh->ck->List bo->aJ->J->b6):b6:=
 pB P need inR call pl gS ops h.n (dR ops.toList 0 [] []) [] [] Γ d q (h.room ops.size) 0 []
  (λenv cV Γ d q h bU aV=>j0 P need ops env.length env cV Γ none h bU aV (dR ops.toList 0 [] []) (lY (ry need env.length env Γ (hh ops.toList 0 []) Γ) λΓ=>K .nrm Γ d q h))
  (λv env cV Γ d q h bU aV=>match aV with
   |(e,m,ay,s6)::aV=>j0 P need ops env.length env cV Γ (some e) ay s6 aV (dR ops.toList 0 [] []) (lY (vt (hh ops.toList 0 []) Γ) λΓ=>K (.bm v) Γ d q h)
   |[]=>bad "a panic")
def BO(P:Program)(need:Nat)(rd:Option Nat)(call:cJ)(c:Code)(Γ:ck)(d:List bo)(q:aJ)(h:J)(K:bh->ck->List bo->aJ->J->b6):Prop:=∃e cg d' aR ai,dO P need rd call c ⟨b3 Γ,d,q,h⟩ e ⟨b3 cg,d',aR,ai⟩/\(K e cg d' aR ai).p
theorem NJ{rd:Option Nat}{pl:h0}{gS:Nat}{ops:Array Oper}{Γ:ck}{d:List bo}{q:aJ}{h:J}{K:bh->ck->List bo->aJ->J->b6}(U:(Gr P need rd.isSome call pl gS ops Γ d q h K).p):BO P need rd call (.region gS ops true) Γ d q h K:=by
 have ny:∀(k:Nat) (s:DStep),(dR ops.toList 0 [] [])[k]? =some s->s.i=k:=λk s ae=>by have:=Gi _ _ _ _ _ _ ae;omega
 have ih:la P need ops [] [] [] Γ (h.room ops.size) 0 [] (λ_=>h.room ops.size):=⟨rfl,λ_ hm=>(by cases hm),λ_ hm=>(by cases hm),rfl,λ_ hm=>(by cases hm)⟩
 rcases rA ny (dR ops.toList 0 [] []) [] [] [] Γ d q (h.room ops.size) 0 [] _ rfl ih U with⟨dE,pD,cg,d',aR,ai,jD,pC,ax,dq,cd,w,gz⟩|⟨v,dE,pD,cg,d',aR,ai,jD,e,m,ay,s6,pc,ax,vy,dq,cd,w,⟨post,aZ⟩,gz⟩
 · refine⟨.nrm,_,d',aR,ai,λr hm=>?_,mN (BN _ gz)⟩
   have h1:=dq r hm
   have aa:=BK (r:=r) (by rw[cd];exact hm) w.cur (λz aL=>(w.st z aL).2) _ (λs ae _=>w.seen s ae) gz
   refine⟨_,?_,BF (by rw[cd];exact hm) _ _ _ (by rw[cd];exact hm)⟩
   have eZ:e4 P need rd.isSome call ops r h.n (dR ops.toList 0 [] []) [] d q ⟨h.t,h.n+ops.size⟩ []=.ok (au.bu dE) d' aR ai (gT pC):=h1
   simp only[cQ,p9,eZ,yp,aa,kN]
 · refine⟨.bm v,_,d',aR,ai,λr hm=>?_,mN (BN _ gz)⟩
   have h1:=dq r hm
   have NK:∀s∈dR ops.toList 0 [] [],s.i<dE.length->s5 P need ops s dE.length (au.bu dE) (b3 cg) pD ax:=λs ae ag=>by
    refine w.seen s ?_
    obtain⟨k,hk,su⟩:=List.getElem_of_mem ae
    have Uh:s.i=k:=ny k s (by rw[List.getElem?_eq_getElem hk,su])
    have NL:k<vy.length:=by rw[w.pl];omega
    have:(vy++post)[k]? =some s:=by rw[<-aZ,List.getElem?_eq_getElem hk,su]
    rw[List.getElem?_append_left NL] at this
    exact List.mem_of_getElem? this
   have aa:=BK (r:=r) (by rw[cd];exact hm) w.cur (λz aL=>(w.st z aL).2) _ NK gz
   refine⟨_,?_,BG _ _ _ (by rw[cd];exact hm)⟩
   have eZ:e4 P need rd.isSome call ops r h.n (dR ops.toList 0 [] []) [] d q ⟨h.t,h.n+ops.size⟩ []=.bm v (au.bu dE) d' aR ai ((e,m,ay)::gT pc):=h1
   simp only[cQ,p9,eZ,yp,aa,kN]
end
abbrev rB:=bh->ck->List bo->aJ->J->b6
def yq(P:Program):List (Nat×iP)->(ck->b6)->b6
 |[],K=>K []
 |(t,s)::l,K=>shape P 9 s λx=>yq P l λΓ=>K ((t,x)::Γ)
def BP(P:Program)(d:List bo)(q:aJ)(K:rB)(fj:bh)(fk:aQ):List (bh×List (Nat×iP))->b6
 |[]=>bad "loop"
 |[(e,rs)]=>yq P rs λe9=>e_ λg:J=>e_ λcg:Env=>eD (fj=e) (eD (fk=⟨cg,d,q,g⟩) (eD (eu (b3 e9) cg) (K e e9 d q g)))
 |(e,rs)::l=>.mk ((yq P rs λe9=>e_ λg:J=>e_ λcg:Env=>eD (fj=e) (eD (fk=⟨cg,d,q,g⟩) (eD (eu (b3 e9) cg) (K e e9 d q g)))).p\/(BP P d q K fj fk l).p)
def NM:Operand->Nat
 |.tmp t=>t
 |_=>999
def yr(P:Program)(call:cJ)(fn:Func)(pl:h0)(eT:Nat)(path:List Nat)(Γ:ck)(d:List bo)(q:aJ)(h:J)(K:rB):b6:=match ri (4000+eT) pl with
 |some (.gR ins outs)=>.mk (cc P fn call path ⟨k2 (b3 Γ) ins,d,q,h⟩ λfj fk=>(BP P d q K fj fk outs).p)
 |_=>bad "loop"
def lb(P:Program)(call:cJ)(fn:Func)(need:Nat)(pl:h0):Code->Nat->List Nat->ck->List bo->aJ->J->rB->b6
 |.skip,_,_,Γ,d,q,h,K=>K .nrm Γ d q h
 |.label _,_,_,Γ,d,q,h,K=>K .nrm Γ d q h
 |.exit id,_,_,Γ,d,q,h,K=>K (.exit id) Γ d q h
 |.ret,_,_,Γ,d,q,h,K=>K .ret Γ d q h
 |.scope b,eT,p,Γ,d,q,h,K=>lb P call fn need pl b eT (p++[0]) Γ d q h K
 |.region id ops draw,_,_,Γ,d,q,h,K=>match draw with
  |false=>vr P need false call pl id (j_ P need ops).steps [] Γ d q h
   (λenv Γ d q h=>lY (ry need env.length env Γ (j_ P need ops).loc Γ) λΓ=>K .nrm Γ d q h)
   (λv Γ d q h=>lY (vt (j_ P need ops).loc Γ) λΓ=>K (.bm v) Γ d q h)
  |true=>Gr P need false call pl id ops Γ d q h K
 |.seq a b,eT,p,Γ,d,q,h,K=>lb P call fn need pl a eT (p++[0]) Γ d q h λe Γ d q h=>match e with
  |.nrm=>lb P call fn need pl b eT (p++[1]) Γ d q h K
  |e=>K e Γ d q h
 |.cond c a b,eT,p,Γ,d,q,h,K=>match iO 0 [] Γ (bM P need [] c) with
  |none=>bad "if"
  |some s=>s.nq (yi (ri (1000+NM c) pl)) (lY (rh (bM P need [] c) .iw Γ) λΓ=>lb P call fn need pl a eT (p++[0]) Γ d q h K) (lY (rh (bM P need [] c) .ix Γ) λΓ=>lb P call fn need pl b eT (p++[1]) Γ d q h K)
 |.block id b,_,p,Γ,d,q,h,K=>lb P call fn need pl b id (p++[0]) Γ d q h λe Γ d q h=>match e with
  |.exit i=>match Nat.beq i id with
   |true=>K .nrm Γ d q h
   |false=>K (.exit i) Γ d q h
  |e=>K e Γ d q h
 |.loop _,eT,p,Γ,d,q,h,K=>yr P call fn pl eT p Γ d q h K
 |.rangeFunc _ _ _ _,eT,p,Γ,d,q,h,K=>yr P call fn pl (500+eT) p Γ d q h K
 |_,_,_,_,_,_,_,_=>bad "code"
section
variable {P:Program} {call:cJ} {fn:Func}
theorem BQ:∀(l:List (Nat×iP)) {K:ck->b6},(yq P l K).p->∃Γ,(K Γ).p
 |[],K,h=>⟨[],h⟩
 |(t,s)::l,K,h=>by
  obtain⟨x,h⟩:=rr h
  obtain⟨Γ,h⟩:=BQ l h
  exact⟨_,h⟩
theorem Gs{d:List bo}{q:aJ}{K:rB}{fj:bh}{fk:aQ}:∀(l:List (bh×List (Nat×iP))),(BP P d q K fj fk l).p->∃e9 cg g,fk=⟨cg,d,q,g⟩/\eu (b3 e9) cg/\(K fj e9 d q g).p
 |[],h=>by cases h
 |[(e,rs)],h=>by
  obtain⟨e9,g,cg,rfl,aa,ao,aM⟩:=BQ _ h
  exact⟨e9,cg,g,aa,ao,aM⟩
 |(e,rs)::y::l,h=>by
  rcases h with h|h
  · obtain⟨e9,g,cg,rfl,aa,ao,aM⟩:=BQ _ h
    exact⟨e9,cg,g,aa,ao,aM⟩
  · exact Gs (y::l) h
theorem ys(Γ:Env):∀l:List Nat,eu (k2 Γ l) Γ
 |[]=>trivial
 |t::l=>by
  simp only[k2]
  cases h:cU t Γ with
  |none=>exact ys Γ l
  |some v=>exact⟨h,ys Γ l⟩
theorem Gt{pl:h0}{eT:Nat}{p:List Nat}{Γ:ck}{d:List bo}{q:aJ}{h:J}{K:rB}(U:(yr P call fn pl eT p Γ d q h K).p):BO P (bH fn) none call (sub (cS fn) p) Γ d q h K:=by
 unfold yr at U
 split at U
 · obtain⟨e,st,ah,bj⟩:=U
   obtain⟨e9,cg,g,rfl,ao,aM⟩:=Gs _ bj
   have h1:dO P (bH fn) none call (sub (cS fn) p) ⟨b3 Γ,d,q,h⟩ e ⟨cg,d,q,g⟩:=dO.pre (st1:=⟨b3 Γ,d,q,h⟩) ah (ys _ _) rfl rfl rfl
   exact⟨e,e9,d,q,g,dO.post h1 ao,aM⟩
 · cases U
theorem pI{pl:h0}:∀(c:Code) (eT:Nat) (p:List Nat) (Γ:ck) (d:List bo) (q:aJ) (h:J) (K:rB),sub (cS fn) p=c->(lb P call fn (bH fn) pl c eT p Γ d q h K).p->BO P (bH fn) none call c Γ d q h K
 |.skip,eT,p,Γ,d,q,h,K,ab,U=>⟨.nrm,Γ,d,q,h,λr ah=>⟨r,rfl,ah⟩,U⟩
 |.label _,eT,p,Γ,d,q,h,K,ab,U=>⟨.nrm,Γ,d,q,h,λr ah=>⟨r,rfl,ah⟩,U⟩
 |.exit id,eT,p,Γ,d,q,h,K,ab,U=>⟨.exit id,Γ,d,q,h,λr ah=>⟨r,rfl,ah⟩,U⟩
 |.ret,eT,p,Γ,d,q,h,K,ab,U=>⟨.ret,Γ,d,q,h,λr ah=>⟨r,rfl,ah⟩,U⟩
 |.scope b,eT,p,Γ,d,q,h,K,ab,U=>pI b eT (p++[0]) Γ d q h K (by rw[hG,ab];simp[sub]) U
 |.region id ops draw,eT,p,Γ,d,q,h,K,ab,U=>by
  simp only[lb] at U
  cases draw with
  |true=>exact NJ U
  |false=>
   rcases BE _ _ _ _ _ _ U with⟨dE,cg,d',aR,ai,dq,cd,gz⟩|⟨v,cg,d',aR,ai,dq,cd,gz⟩
   · refine⟨.nrm,_,d',aR,ai,λr ah=>⟨_,?_,BF (by rw[cd];exact ah) _ _ _ (by rw[cd];exact ah)⟩,mN gz⟩
     have h1:gH P (bH fn) false call r (j_ P (bH fn) ops).steps [] d q h=.ok (au.bu dE) d' aR ai:=dq r ah
     simp only[cQ,Option.isSome_none,h1,kN,yp]
   · refine⟨.bm v,_,d',aR,ai,λr ah=>⟨_,?_,BG _ _ _ (by rw[cd];exact ah)⟩,mN gz⟩
     have h1:gH P (bH fn) false call r (j_ P (bH fn) ops).steps [] d q h=.bm v d' aR ai:=dq r ah
     simp only[cQ,Option.isSome_none,h1,kN]
 |.seq a b,eT,p,Γ,d,q,h,K,ab,U=>by
  obtain⟨e,fo,d1,aK,h1,aX,bz⟩:=pI a eT (p++[0]) Γ d q h _ (by rw[hG,ab];simp[sub]) U
  by_cases he:e=.nrm
  · subst he
    obtain⟨ar,gj,d2,a_,aa,bx,bZ⟩:=pI b eT (p++[1]) fo d1 aK h1 K (by rw[hG,ab];simp[sub]) bz
    refine⟨ar,gj,d2,a_,aa,λr ah=>?_,bZ⟩
    obtain⟨j1,fQ,j2⟩:=aX r ah
    obtain⟨BR,Gu,NN⟩:=bx j1 j2
    exact⟨BR,by simp only at fQ Gu;simp only[cQ,fQ,nO,Gu],NN⟩
  · refine⟨e,fo,d1,aK,h1,λr ah=>?_,by cases e<;>first|exact absurd rfl he|exact bz⟩
    obtain⟨j1,fQ,j2⟩:=aX r ah
    exact⟨j1,by simp only[cQ,fQ];exact qz he,j2⟩
 |.cond c a b,eT,p,Γ,d,q,h,K,ab,U=>by
  simp only[lb] at U
  split at U
  · cases U
  · rename_i s ae
    have eM:fx 0 [] (b3 Γ) (bM P (bH fn) [] c)=some s.den:=by rw[show([]:List I)=au.bu [] from rfl,<-rn,ae];rfl
    obtain⟨ad,bc⟩:=yl _ U
    have al:=au.nt ad
    rcases bc with⟨bd,hk⟩|⟨bd,hk⟩
    · rw[bd] at al
      obtain⟨_,ar,_⟩:=sZ (x:=.iw) ae al
      obtain⟨e,fo,d1,aK,h1,aX,bz⟩:=pI a eT (p++[0]) _ d q h K (by rw[hG,ab];simp[sub]) (mN hk)
      refine⟨e,fo,d1,aK,h1,λr ah=>?_,bz⟩
      obtain⟨j1,fQ,j2⟩:=aX r (by rw[ar];exact ah)
      exact⟨j1,by simp only at fQ;simp only[cQ,rp ah eM,al,fQ],j2⟩
    · rw[bd] at al
      obtain⟨_,ar,_⟩:=sZ (x:=.ix) ae al
      obtain⟨e,fo,d1,aK,h1,aX,bz⟩:=pI b eT (p++[1]) _ d q h K (by rw[hG,ab];simp[sub]) (mN hk)
      refine⟨e,fo,d1,aK,h1,λr ah=>?_,bz⟩
      obtain⟨j1,fQ,j2⟩:=aX r (by rw[ar];exact ah)
      exact⟨j1,by simp only at fQ;simp only[cQ,rp ah eM,al,fQ],j2⟩
 |.block id b,eT,p,Γ,d,q,h,K,ab,U=>by
  obtain⟨e,fo,d1,aK,h1,aX,bz⟩:=pI b id (p++[0]) Γ d q h _ (by rw[hG,ab];simp[sub]) U
  cases e with
  |exit i=>
   simp only at bz
   cases ag:Nat.beq i id with
   |true=>
    rw[ag] at bz
    obtain rfl:=Nat.eq_of_beq_eq_true ag
    exact⟨.nrm,fo,d1,aK,h1,λr ah=>by
     obtain⟨j1,fQ,j2⟩:=aX r ah
     exact⟨j1,by simp only at fQ;simp only[cQ,fQ,if_true],j2⟩,bz⟩
   |false=>
    rw[ag] at bz
    have cj:¬i=id:=by intro b_;subst b_;simp at ag
    exact⟨.exit i,fo,d1,aK,h1,λr ah=>by
     obtain⟨j1,fQ,j2⟩:=aX r ah
     exact⟨j1,by simp only at fQ;simp only[cQ,fQ,if_neg cj],j2⟩,bz⟩
  |_=>
   exact⟨_,fo,d1,aK,h1,λr ah=>by
    obtain⟨j1,fQ,j2⟩:=aX r ah
    exact⟨j1,by simp only at fQ;simp only[cQ,fQ],j2⟩,bz⟩
 |.loop b,eT,p,Γ,d,q,h,K,ab,U=>by
  have:=Gt U;rw[ab] at this;exact this
 |.rangeFunc f ps as bS,eT,p,Γ,d,q,h,K,ab,U=>by
  have:=Gt U;rw[ab] at this;exact this
 |.goto _,eT,p,Γ,d,q,h,K,ab,U=>by simp only[lb] at U;cases U
 |.refuse _,eT,p,Γ,d,q,h,K,ab,U=>by simp only[lb] at U;cases U
def BS(P:Program)(fn:Func)(call:cJ)(pl:h0)(fm:List Nat)(path:List Nat)(Γ:ck)(d:List bo)(q:aJ)(h:J)(Q:bh->aQ->Prop):Prop:=
 (lb P call fn (bH fn) pl (sub (cS fn) path) 0 path Γ d q h λe Γ d q h=>.mk (Q e ⟨k2 (b3 Γ) fm,d,q,h⟩)).p
theorem NO(pl:h0)(fm:List Nat)(Γ:ck){cg:Env}{path:List Nat}{d:List bo}{q:aJ}{h:J}{Q:bh->aQ->Prop}(gA:b3 Γ=cg)(H:BS P fn call pl fm path Γ d q h Q):cc P fn call path ⟨cg,d,q,h⟩ Q:=by
 subst gA
 obtain⟨e,fo,d1,aK,h1,aX,bz⟩:=pI _ 0 path Γ d q h _ rfl H
 exact⟨e,_,dO.post aX (ys _ fm),bz⟩
def Gv(P:Program)(fn:Func)(R:bL->Prop):rB:=λe Γ d q h=>match d with
 |[]=>match e with
  |.bm v=>.mk (R (.bm v h))
  |.ret|.nrm=>match jz P (bH fn) fn (b3 Γ) h with
   |some v=>.mk (R (.ret v h))
   |none=>bad "results"
  |_=>bad "end"
 |_=>bad "deferred"
def yu(P:Program)(fn:Func)(call:cJ)(pl:h0)(Γ:ck)(h:J)(R:bL->Prop):Prop:=
 (lb P call fn (bH fn) pl (cS fn) 0 [] Γ [] .none h (Gv P fn R)).p
theorem Gw{intr:Nat->List I->J->Option (I×J)}{f n:Nat}{args:List I}{h:J}{R:bL->Prop}(pl:h0)(Γ:ck)(hf:P.funcs[f]? =some fn)(ad:fn.body.isSome=true)(ag:intr f args h=none)(hle:Nat.ble args.length fn.ntmps=true)(gA:b3 Γ=jy 0 args)(H:yu P fn (cu P intr n) pl Γ h R):R (cu P intr (n+1) (.fn f) args h):=by
 refine FZ hf ad ag hle (Q:=λe s=>s.d=[]/\((∃v,e=.bm v/\R (.bm v s.h))\/((e=.ret\/e=.nrm)/\∃v,jz P (bH fn) fn s.Γ s.h=some v/\R (.ret v s.h)))) ?_ λe s bj=>?_
 · have ae:sub (cS fn) []=cS fn:=by cases cS fn<;>rfl
   obtain⟨e,fo,d1,aK,h1,aX,bz⟩:=pI (cS fn) 0 [] Γ [] .none h _ ae H
   rw[gA] at aX
   refine⟨e,⟨b3 fo,d1,aK,h1⟩,by unfold br;rw[ae];exact aX,?_⟩
   unfold Gv at bz
   split at bz
   · refine⟨rfl,?_⟩
     split at bz
     · exact .inl ⟨_,rfl,bz⟩
     · split at bz
       · rename_i v aI;exact .inr ⟨.inl rfl,v,aI,bz⟩
       · cases bz
     · split at bz
       · rename_i v aI;exact .inr ⟨.inr rfl,v,aI,bz⟩
       · cases bz
     · cases bz
   · cases bz
 · obtain⟨al,bj⟩:=bj
   rcases bj with⟨v,rfl,ah⟩|⟨he,v,aI,ah⟩
   · exact .inr ⟨v,rfl,al,ah⟩
   · exact .inl ⟨he,al,v,aI,ah⟩
end
attribute [irreducible] BS yu
@[reducible] def ak (n:Nat):I:=.int .i64 (.ofNat n)
@[reducible] def a6 (n:Nat):I:=.int .u64 (.ofNat n)
@[reducible] def iy (n:Nat):I:=.int .u8 (.ofNat n)
@[reducible] def aA (b:Nat):I:=.ptr b 0
@[reducible] def av (l:List I) (t:Nat):b2:=.cells l t .own 0 0
@[reducible] def lf (a b:Nat):Bool:=eW (.ofNat a) (.ofNat b)
@[reducible] def yv (a b:Nat):Bool:=dQ (.ofNat a) (.ofNat b)
@[reducible] def BT (a b:Nat):Bool:=lv (.ofNat a) (.ofNat b)
abbrev kx(v:I):Prop:=I.sound v=true
abbrev NP(v:I):Prop:=I.cL v=true
@[reducible] def bb (Γ:Env) (h:J):aQ:=⟨Γ,[],.none,h⟩
@[reducible] def lg (Γ:Env) (h:J):aQ:=⟨Γ,[],.none,h⟩
def vB(os:List Nat):Env->ck
 |[]=>[]
 |(k,v)::l=>(k,if os.any (Nat.beq k) then au.o v else au.v v)::vB os l
theorem BU(os:List Nat):∀Γ:Env,b3 (vB os Γ)=Γ
 |[]=>rfl
 |(k,v)::l=>by
  show(k,au.den (if os.any (Nat.beq k) then au.o v else au.v v))::b3 (vB os l)=(k,v)::l
  rw[BU os l]
  split<;>rfl
theorem fy{P:Program}{fn:Func}{call:cJ}(pl:h0)(fm os:List Nat){Γ:Env}{path:List Nat}{d:List bo}{q:aJ}{h:J}{Q:bh->aQ->Prop}{X:Prop}(H:X)(e:X=BS P fn call pl fm path (vB os Γ) d q h Q:=by kernel_rfl):cc P fn call path ⟨Γ,d,q,h⟩ Q:=NO pl fm _ (BU os Γ) (Eq.mp e H)
theorem hq{P:Program}{fn:Func}{intr:Nat->List I->J->Option (I×J)}{f n:Nat}{args:List I}{h:J}{R:bL->Prop}(pl:h0)(os:List Nat)(hf:P.funcs[f]? =some fn){X:Prop}(H:X)(ad:fn.body.isSome=true:=by kernel_rfl)(ag:intr f args h=none:=by kernel_rfl)(hle:Nat.ble args.length fn.ntmps=true:=by kernel_rfl)(e:X=yu P fn (cu P intr n) pl (vB os (jy 0 args)) h R:=by kernel_rfl):R (cu P intr (n+1) (.fn f) args h):=Gw pl _ hf ad ag hle (BU os _) (Eq.mp e H)
theorem BV{P:Program}{fn:Func}{intr:Nat->List I->J->Option (I×J)}{f n:Nat}{args:List I}{h:J}{R:bL->Prop}(pl:h0)(Γ:ck)(hf:P.funcs[f]? =some fn){X:Prop}(H:X)(ad:fn.body.isSome=true:=by kernel_rfl)(ag:intr f args h=none:=by kernel_rfl)(hle:Nat.ble args.length fn.ntmps=true:=by kernel_rfl)(gA:b3 Γ=jy 0 args:=by rfl)(e:X=yu P fn (cu P intr n) pl Γ h R:=by kernel_rfl):R (cu P intr (n+1) (.fn f) args h):=Gw pl Γ hf ad ag hle gA (Eq.mp e H)
end aU
