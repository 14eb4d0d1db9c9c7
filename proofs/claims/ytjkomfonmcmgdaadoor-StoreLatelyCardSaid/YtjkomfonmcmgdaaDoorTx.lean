/-
  PROVED HERE: contracts of functions (Tx). No condition beside each statement's own.
-/
import Derived.Test.YtjkomfonmcmgdaaDoorSxb
set_option linter.unusedVariables false
set_option linter.unusedSimpArgs false
namespace a8
open Go
inductive Stop(h1:String):Prop
inductive cv where
 |mk (p:Prop)
def cv.p:cv->Prop
 |.mk p=>p
abbrev bad(w:String):cv:=.mk (Stop w)
abbrev fc(p:Prop)(k:cv):cv:=.mk (p/\k.p)
abbrev fC{α:Type}(f:α->cv):cv:=.mk (∃x:α,(f x).p)
abbrev wi(c c':Prop)(a b:cv):cv:=.mk ((c->a.p)/\(c'->b.p))
inductive ay where
 |v (a:I)
 |o (a:I)
 |iK|iL
 |lt (i n:Nat)|le (i n:Nat)|eq (i n:Nat)
 |bx (s:ay)
 |iY (l:List ay)
 |g_ (l:List ay)
def ay.jt:ay->Bool
 |.iK=>true
 |.iL=>false
 |.lt i n=>fx (.ofNat i) (.ofNat n)
 |.le i n=>gN (.ofNat i) (.ofNat n)
 |.eq i n=>cW (.ofNat i) (.ofNat n)
 |.bx s=>!s.jt
 |.v (.bool b)=>b
 |_=>false
def ay.rP:ay->Bool
 |.iK|.iL|.lt _ _|.le _ _|.eq _ _|.bx _=>true
 |.v (.bool _)=>true
 |_=>false
mutual
def ay.den:ay->I
 |.v a=>a
 |.o a=>a
 |.iK=>.bool true
 |.iL=>.bool false
 |.lt i n=>.bool (fx (.ofNat i) (.ofNat n))
 |.le i n=>.bool (gN (.ofNat i) (.ofNat n))
 |.eq i n=>.bool (cW (.ofNat i) (.ofNat n))
 |.bx s=>.bool (!s.jt)
 |.iY l=>.agg (ay.bH l)
 |.g_ l=>.aJ (ay.bH l)
def ay.bH:List ay->List I
 |[]=>[]
 |s::l=>s.den::ay.bH l
end
def kf:I->ay
 |.bool true=>.iK
 |.bool false=>.iL
 |v=>.v v
abbrev cN:=List (Nat×ay)
def cB:cN->Env
 |[]=>[]
 |(t,s)::l=>(t,s.den)::cB l
def rQ(t:Nat):cN->Option ay
 |[]=>none
 |(u,s)::l=>match Nat.beq t u with
  |true=>some s
  |false=>rQ t l
def rR:Nat->List ay->Option ay
 |_,[]=>none
 |0,s::_=>some s
 |n+1,_::l=>rR n l
def rS:Nat->ay->List ay->List ay
 |_,_,[]=>[]
 |0,x,_::l=>x::l
 |n+1,x,s::l=>s::rS n x l
def zf(t:Nat)(x:ay):cN->cN
 |[]=>[]
 |(u,s)::l=>match Nat.beq t u with
  |true=>(u,x)::l
  |false=>(u,s)::zf t x l
def kM(m:Nat)(env:List ay)(Γ:cN):Acc->Option ay
 |.env j=>match Nat.blt j m with
  |true=>rR (m-1-j) env
  |false=>none
 |.j1 p=>rQ p.num Γ
 |.val v=>some (kf v)
def tI(m:Nat)(a:Acc)(b:ay)(env:List ay):List ay:=match a with
 |.env j=>rS (m-1-j) b env
 |_=>env
def rT(a:Acc)(b:ay)(Γ:cN):cN:=match a with
 |.j1 p=>zf p.num b Γ
 |_=>Γ
def ay.kN(s:ay)(K:ay->cv):cv:=match s with
 |.v a=>K (.v a)
 |.o a=>K (.o a)
 |.iK=>K .iK
 |.iL=>K .iL
 |.lt i n=>K (.lt i n)
 |.le i n=>K (.le i n)
 |.eq i n=>K (.eq i n)
 |.bx s=>K (.bx s)
 |.iY l=>K (.iY l)
 |.g_ l=>K (.g_ l)
def qd:List ay->(List ay->cv)->cv
 |[],K=>K []
 |s::l,K=>s.kN λs=>qd l λl=>K (s::l)
def mc:cN->(cN->cv)->cv
 |[],K=>K []
 |(t,s)::l,K=>s.kN λs=>mc l λl=>K ((t,s)::l)
inductive iZ where
 |ty (t:TypeId)
 |is (v:I)|io (v:I)
 |z (k:IntKind)
 |n (k:IntKind)
 |o
 |p|HX
 |st|b
 |im|tJ (c:c7)
 |g_ (l:List iZ)|iY (l:List iZ)
 |HY (t:TypeId) (s:iZ)
 |fn (f:Nat) (k:Nat)
inductive nT where
 |a9 (s:iZ)
 |t|f
 |p (s:iZ)
 |e (r:Option iZ) (s:iZ)
 |hH (ins:List Nat) (outs:List (bk×List (Nat×iZ)))
def CN:List ay->List ay
 |[]=>[]
 |.iY l::r=>l++CN r
 |s::r=>s::CN r
abbrev ju:=List (Nat×nT)
def rU(k:Nat):ju->Option nT
 |[]=>none
 |(j,o)::l=>match Nat.beq k j with
  |true=>some o
  |false=>rU k l
mutual
def shape(P:Program):Nat->iZ->(ay->cv)->cv
 |0,_,_=>bad "shape"
 |n+1,s,K=>match s with
  |.is v=>K (kf v)
  |.io v=>K (.o v)
  |.z k=>fC λx:Int=>K (.o (.int k x))
  |.n k=>fC λx:Nat=>K (.v (.int k (.ofNat x)))
  |.o=>fC λx:I=>K (.o x)
  |.p=>fC λx:Nat=>K (.v (.ptr x 0))
  |.HX=>fC λx:Nat=>fC λy:Nat=>K (.v (.ptr x y))
  |.st=>fC λx:List UInt8=>K (.v (.str x))
  |.b=>fC λx:Bool=>K (.v (.bool x))
  |.im=>fC λx:Nat=>fC λy:Nat=>fC λz:Nat=>fC λc:c7=>K (.v (.slice x y z c))
  |.tJ c=>fC λx:Nat=>fC λz:Nat=>K (.v (.slice x 0 z c))
  |.g_ l=>qe P n l λr=>K (.g_ r)
  |.iY l=>qe P n l λr=>K (.iY r)
  |.HY t s=>shape P n s λx=>K (.v (.iface t x.den))
  |.fn f k=>fC λx:List I=>K (.v (.fn f [] x))
  |.ty t=>match P.underlying t with
   |some .bool=>fC λx:Bool=>K (.v (.bool x))
   |some (.int k)=>fC λx:Nat=>K (.v (.int k (.ofNat x)))
   |some .string=>fC λx:List UInt8=>K (.v (.str x))
   |some (.pointer _)=>fC λx:Nat=>K (.v (.ptr x 0))
   |some (.struct b0)=>qe P n (b0.toList.map λf=>.ty f.type) λr=>K (.iY (CN r))
   |some (.tuple cu)=>qe P n (cu.toList.map .ty) λr=>K (.g_ r)
   |some .invalid=>K (.v (.aJ []))
   |some _=>fC λx:I=>K (.o x)
   |none=>K (.v (.aJ []))
def qe(P:Program):Nat->List iZ->(List ay->cv)->cv
 |0,_,_=>bad "shapes"
 |n+1,l,K=>match l with
  |[]=>K []
  |s::l=>shape P n s λx=>qe P n l λr=>K (x::r)
end
def ay.gX(dH:Option Bool)(A B:cv):ay->cv
 |.iK=>A
 |.iL=>B
 |.lt i n=>match dH with
  |none=>wi (i<n) (¬i<n) A B
  |some true=>fc (i<n) A
  |some false=>fc (¬i<n) B
 |.le i n=>match dH with
  |none=>wi (i<=n) (¬i<=n) A B
  |some true=>fc (i<=n) A
  |some false=>fc (¬i<=n) B
 |.eq i n=>match dH with
  |none=>wi (i=n) (¬i=n) A B
  |some true=>fc (i=n) A
  |some false=>fc (¬i=n) B
 |.bx s=>s.gX (match dH with|none=>none|some b=>some (!b)) B A
 |.v (.bool x)=>match dH with
  |none=>wi (x=true) (x=false) A B
  |some true=>fc (x=true) A
  |some false=>fc (x=false) B
 |_=>bad "choice"
def zg(o:Option nT):Option Bool:=match o with
 |some .t=>some true
 |some .f=>some false
 |_=>none
def CO(o:Option nT)(t:TypeId):iZ:=match o with
 |some (.a9 s)=>s
 |_=>.ty t
def CP(op:BinOp)(x y:ay):Option ay:=match x,y with
 |.v (.int k (.ofNat a)),.v (.int dA (.ofNat b))=>match decide (k=dA) with
  |true=>match op with
   |.lss=>some (.lt a b)
   |.leq=>some (.le a b)
   |.gtr=>some (.lt b a)
   |.geq=>some (.le b a)
   |.eql=>some (.eq a b)
   |.neq=>some (.bx (.eq a b))
   |_=>none
  |false=>none
 |_,_=>none
def CQ(op:BinOp)(x y:ay):Option (Prop×I):=match x,y with
 |.v (.int k (.ofNat a)),.v (.int dA (.ofNat b))=>match decide (k=dA),op,k with
  |true,.add,.i64=>some (a+b<9223372036854775808,.int .i64 (.ofNat (a+b)))
  |true,.sub,.i64=>some (b<=a/\a<9223372036854775808,.int .i64 (.ofNat (a-b)))
  |true,.mul,.i64=>some (a*b<9223372036854775808,.int .i64 (.ofNat (a*b)))
  |true,.add,.u64=>some (a+b<18446744073709551616,.int .u64 (.ofNat (a+b)))
  |true,.sub,.u64=>some (b<=a/\a<18446744073709551616,.int .u64 (.ofNat (a-b)))
  |_,_,_=>none
 |.v (.str a),.v (.str b)=>match op with
  |.add=>some (a.length+b.length<=1000000000000,.str (a++b))
  |_=>none
 |_,_=>none
def rV:ay->List I
 |.o a=>[a]
 |s=>s.den.cells
def rW:List ay->cv->cv
 |[],K=>K
 |.o a::l,K=>fc (a.cw=true) (rW l K)
 |_::l,K=>rW l K
def rX:List ay->Bool
 |[]=>true
 |.o _::l=>rX l
 |s::l=>s.den.cw&&rX l
def tK(s:ay)(K:cv):cv:=match s with
 |.o a=>fc (a.cw=true) K
 |.iY l=>match rX l with
  |true=>rW l K
  |false=>bad "cells"
 |s=>match s.den.cells.all I.cw with
  |true=>K
  |false=>bad "cells"
def lv:ay->List ay
 |.iY l=>l
 |.v (.agg cs)=>cs.map kf
 |s=>[s]
def ay.CR:ay->Bool
 |.o _=>true
 |_=>false
def rY(place:Nat->Option (Nat×Nat)):List ay->List (Nat×ay)->Option (List ay)
 |cells,[]=>some cells
 |cells,(i,s)::rest=>match place i with
  |none=>none
  |some (off,size)=>match Nat.beq (lv s).length size&&Nat.ble (off+size) cells.length with
   |true=>rY place (cells.take off++lv s++(cells.drop off).drop (lv s).length) rest
   |false=>none
def md:List (Nat×ay)->List ay
 |[]=>[]
 |(_,s)::l=>lv s++md l
def zh(P:Program)(t:TypeId)(len:Nat)(ps:List (Nat×ay))(K:TypeId->List ay->cv):cv:=match P.underlying t with
 |some (.slice e)=>match cY P e,dt P e with
  |some sz,some z=>match Nat.ble (len*sz) 16777216&&Nat.beq z.cells.length sz,(if len*sz=0 then[] else ew len z.cells).all I.cw,rY (λi=>some (i*sz,sz)) ((if len*sz=0 then[] else ew len z.cells).map kf) ps,rX (md ps) with
   |true,true,some cs,true=>rW (md ps) (qd cs λcs=>K e cs)
   |_,_,_,_=>bad "buildSlice"
  |_,_=>bad "buildSlice"
 |_=>bad "buildSlice"
def hp(a b:Bool):Bool:=a==b
def CS(P:Program)(op:BinOp)(t:TypeId)(x y:ay):Option ay:=match x.rP&&y.rP,P.underlying t,op with
 |true,some .bool,.eql=>some (.v (.bool (hp x.jt y.jt)))
 |true,some .bool,.neq=>some (.bx (.v (.bool (hp x.jt y.jt))))
 |_,_,_=>none
def Ql(x y:ay):Bool:=match x,y with
 |.v (.ptr _ _),.v .br|.v .br,.v .br|.v (.slice _ _ _ _),.v .bd|.v .bd,.v .bd|.v (.iface _ _),.v .ea|.v .ea,.v .ea=>true
 |_,_=>false
section
variable (P:Program) (inR:Bool) (call:bt)
abbrev nU:=ay->List bz->bu->ab->cv
abbrev nV:=I->List bz->bu->ab->cv
def zi(dH:Option nT)(t:TypeId)(f:dB)(args:List I)(d:List bz)(q:bu)(h:ab)(K:nU)(bA:nV):cv:=match dH with
 |some (.p s)=>shape P 9 s λx=>fC λg:ab=>fc (call f args h=.bK x.den g) (bA x.den d q g)
 |some (.e r s)=>.mk ((shape P 9 (match r with|some r=>r|none=>.ty t) λx=>fC λg:ab=>fc (call f args h=.ret x.den g) (K x d q g)).p\/(shape P 9 s λx=>fC λg:ab=>fc (call f args h=.bK x.den g) (bA x.den d q g)).p)
 |dH=>shape P 9 (CO dH t) λx=>fC λg:ab=>fc (call f args h=.ret x.den g) (K x d q g)
def oX(dH:Option nT)(o:Oper)(g:Operand->ay)(d:List bz)(q:bu)(h:ab)(K:nU)(bA:nV):cv:=
 match Cl o (λx=>(g x).den) with
 |0=>match cj P o (λx=>(g x).den) h with
  |.val v ao=>match dH with
   |some (.a9 .o)=>K (.o v) d q ao
   |_=>K (.v v) d q ao
  |.bK v ao=>bA v d q ao
  |.call f args ao=>zi P call dH o.type (.fn f) args d q ao K bA
  |.cS l args ao=>zi P call dH o.type (.cS l) args d q ao K bA
  |.j0 x=>match inR with
   |true=>bad "defer"
   |false=>K (.v (.aJ [])) (x::d) q h
  |.qO=>match inR with
   |true=>bad "recover"
   |false=>match q with
    |.none=>K (.v .ea) d .none h
    |.done v=>K (.v .ea) d (.done v) h
    |.act v=>K (.v v) d (.done v) h
  |.fail w=>bad w
 |1=>shape P 9 (CO dH o.type) λx=>fc (mU P o (λy=>(g y).den) h x.den) (K x d q h)
 |_=>shape P 9 (CO dH o.type) λx=>fC λao:ab=>fc (tz P o (λy=>(g y).den) h x.den ao) (K x d q ao)
def CT(dH:Option nT)(o:Oper)(g:Operand->ay)(d:List bz)(q:bu)(h:ab)(K:nU)(bA:nV):cv:=match o.op with
 |.move x|.assign x=>(g x).kN λs=>K s d q h
 |.unOp .not _ x=>match(g x).rP with
  |true=>(g x).kN λs=>K (.bx s) d q h
  |false=>bad "not"
 |.binOp op t x y _=>(g x).kN λu=>(g y).kN λw=>match(match CP op u w with|some s=>some s|none=>CS P op t u w) with
  |some s=>K s d q h
  |none=>match Ql u w with
   |true=>match e1 P h op t x y u.den w.den with
    |some v=>(kf v).kN λs=>K s d q h
    |none=>bad "nil"
   |false=>match(match dH with|none=>CQ op u w|some _=>none) with
    |some (p,v)=>fc p (K (.v v) d q h)
    |none=>oX P inR call dH o g d q h K bA
 |.extract x i=>match g x with
  |.g_ l=>match rR i l with
   |some s=>s.kN λs=>K s d q h
   |none=>bad "extract"
  |_=>oX P inR call dH o g d q h K bA
 |.indexAddr t x i=>match P.underlying t,g x,eb (g i).den with
  |some (.array m e),.v (.ptr b off),some n=>match cY P e with
   |some sz=>fc (n<m) (K (.v (.ptr b (off+n*sz))) d q h)
   |none=>bad "indexAddr"
  |some (.slice e),.v (.slice b off m c),some n=>match cY P e with
   |some sz=>fc (n<m) (K (.v (.ptr b (off+n*sz))) d q h)
   |none=>bad "indexAddr"
  |_,_,_=>bad "indexAddr of what"
 |.store t a x=>match(g a).den,cY P t with
  |.ptr b off,some n=>match Nat.beq (rV (g x)).length n with
   |true=>(g x).kN λs=>tK s (fC λfr:ab=>fc (storeCells h b off (rV s)=some fr) (K (.v (.aJ [])) d q fr))
   |false=>bad "store size"
  |_,_=>bad "store"
 |.build t parts=>match(md (parts.toList.map λp=>(p.1,g p.2))).any ay.CR with
  |false=>oX P inR call dH o g d q h K bA
  |true=>match dt P t,P.underlying t with
   |some z,some (.struct b0)=>match b0.toList.all (λf=>(cY P f.type).isSome),rY (λi=>(b0[i]?).map λf=>(f.offset,P.cellsOf f.type)) (z.cells.map kf) (parts.toList.map λp=>(p.1,g p.2)),rX (md (parts.toList.map λp=>(p.1,g p.2))) with
    |true,some cs,true=>rW (md (parts.toList.map λp=>(p.1,g p.2))) (qd cs λcs=>K (.iY cs) d q h)
    |_,_,_=>bad "build"
   |_,_=>bad "build of what"
 |.buildSlice t len parts=>match(md (parts.toList.map λp=>(p.1,g p.2))).any ay.CR with
  |false=>oX P inR call dH o g d q h K bA
  |true=>zh P t len (parts.toList.map λp=>(p.1,g p.2)) λe cs=>K (.v (.slice h.n 0 len (.exact len))) d q (h.push (.cells (ay.bH cs) e .own 0 0))
 |.box e x=>(g x).kN λs=>tK s (K (.v (.ptr h.n 0)) d q (h.push (.cells (rV s) e .own 0 0)))
 |.call c=>match c.callee with
  |.builtin .len=>match c.args.toList.map g,c.argTypes[0]? with
   |[.o a],some t=>fC λn:Nat=>fc (cr P h t a=some (.int .i64 (.ofNat n))) (K (.v (.int .i64 (.ofNat n))) d q h)
   |_,_=>oX P inR call dH o g d q h K bA
  |_=>oX P inR call dH o g d q h K bA
 |_=>oX P inR call dH o g d q h K bA
end
theorem ay.nW{s:ay}(h:s.rP=true):s.den=.bool s.jt:=by
 cases s with
 |v a=>cases a<;>first|rfl|cases h
 |o a=>cases h
 |iY l=>cases h
 |g_ l=>cases h
 |iK=>rfl
 |iL=>rfl
 |lt i n=>rfl
 |le i n=>rfl
 |eq i n=>rfl
 |bx s=>rfl
theorem wj(a:I):(kf a).den=a:=by
 unfold kf;split<;>rfl
theorem CU:∀(n:Nat) (l:List ay),(rR n l).map ay.den=nth n (ay.bH l)
 |0,[]=>rfl
 |_+1,[]=>rfl
 |0,x::l=>rfl
 |n+1,x::l=>CU n l
theorem HZ(n:Nat)(l:List ay)(s:ay)(h:rR n l=some s):nth n (ay.bH l)=some s.den:=by
 rw[<-CU,h];rfl
theorem H0(t:Nat):∀Γ:cN,(rQ t Γ).map ay.den=dp t (cB Γ)
 |[]=>rfl
 |(u,x)::l=>by
  simp only[rQ,cB,dp]
  cases ae:Nat.beq t u with
  |true=>rfl
  |false=>exact H0 t l
def gb(m:Nat)(l:List I)(G:Env):Acc->Option I
 |.env j=>match Nat.blt j m with
  |true=>nth (m-1-j) l
  |false=>none
 |.j1 p=>dp p.num G
 |.val v=>some v
theorem tL(m:Nat)(env:List ay)(Γ:cN)(a:Acc):(kM m env Γ a).map ay.den=gb m (ay.bH env) (cB Γ) a:=by
 cases a with
 |env j=>
  simp only[kM,gb]
  cases Nat.blt j m with
  |true=>exact CU _ _
  |false=>rfl
 |j1 p=>exact H0 _ _
 |val v=>simp only[kM,gb,Option.map_some,wj]
theorem tM{m:Nat}{l:List I}{G:Env}{r:aN}(hm:Mod r G){a:Acc}{v:I}(h:gb m l G a=some v):c1 m l r a=v:=by
 cases a with
 |env j=>
  simp only[gb] at h
  split at h
  · simp only[c1,h,Option.getD_some]
  · cases h
 |j1 p=>simp only[gb] at h;simp only[c1];rw[<-Hu p];exact hm _ _ h
 |val x=>cases h;rfl
theorem wk{m:Nat}{l:List I}{G:Env}{a:Acc}{v:I}(x:I)(h:gb m l G a=some v):gb (m+1) (x::l) G a=some v:=by
 cases a with
 |env j=>
  simp only[gb] at h⊢
  split at h
  · rename_i ae
    have aF:j<m:=by simpa using ae
    have e9:Nat.blt j (m+1)=true:=by simp;omega
    rw[e9]
    have:m+1-1-j=(m-1-j)+1:=by omega
    rw[this];exact h
  · cases h
 |j1 p=>exact h
 |val x=>exact h
theorem H2(x:ay):∀(n:Nat) (l:List ay),(∀s,rR n l=some s->s.den=x.den)->ay.bH (rS n x l)=ay.bH l
 |0,[],_=>rfl
 |_+1,[],_=>rfl
 |0,s::l,h=>by simp only[rS,ay.bH,h s rfl]
 |n+1,s::l,h=>by simp only[rS,ay.bH];rw[H2 x n l h]
theorem H3(x:ay):∀(n:Nat) (l:List ay),(rS n x l).length=l.length
 |0,[]=>rfl
 |_+1,[]=>rfl
 |0,s::l=>rfl
 |n+1,s::l=>by simp only[rS,List.length_cons,H3 x n l]
theorem H4(t:Nat)(x:ay):∀Γ:cN,(∀s,rQ t Γ=some s->s.den=x.den)->cB (zf t x Γ)=cB Γ
 |[],_=>rfl
 |(u,s)::l,h=>by
  simp only[zf]
  simp only[rQ] at h
  cases ae:Nat.beq t u with
  |true=>rw[ae] at h;simp only[cB,h s rfl]
  |false=>rw[ae] at h;simp only[cB];rw[H4 t x l h]
theorem tN{m:Nat}{env:List ay}{Γ:cN}{a:Acc}{s x:ay}(h:kM m env Γ a=some s)(e:s.den=x.den):ay.bH (tI m a x env)=ay.bH env/\cB (rT a x Γ)=cB Γ/\(tI m a x env).length=env.length:=by
 cases a with
 |env j=>
  simp only[kM] at h
  split at h
  · exact⟨H2 x _ _ λa6 hs=>by rw[h] at hs;cases hs;exact e,rfl,H3 _ _ _⟩
  · cases h
 |j1 p=>exact⟨rfl,H4 _ _ _ λa6 hs=>by rw[show rQ p.num Γ=some s from h] at hs;cases hs;exact e,rfl⟩
 |val v=>exact⟨rfl,rfl,rfl⟩
theorem ay.kO{s:ay}{K:ay->cv}(h:(s.kN K).p):(K s).p:=by cases s<;>exact h
theorem rZ:∀{l:List ay} {K:List ay->cv},(qd l K).p->(K l).p
 |[],_,h=>h
 |s::l,K,h=>rZ (l:=l) (ay.kO h)
theorem mY:∀{l:cN} {K:cN->cv},(mc l K).p->(K l).p
 |[],_,h=>h
 |(t,s)::l,K,h=>mY (l:=l) (ay.kO h)
theorem H5{P:Program}:∀(n:Nat),(∀(s:iZ) (K:ay->cv),(shape P n s K).p->∃x,(K x).p)/\(∀(l:List iZ) (K:List ay->cv),(qe P n l K).p->∃x,(K x).p)
 |0=>⟨λs K h=>(by simp only[shape] at h;cases h),λl K h=>(by simp only[qe] at h;cases h)⟩
 |n+1=>by
  obtain⟨aa,ad⟩:=H5 (P:=P) n
  refine⟨λs K h=>?_,λl K h=>?_⟩
  · simp only[shape] at h
    cases s with
    |is v=>exact⟨_,h⟩
    |io v=>exact⟨_,h⟩
    |z k=>obtain⟨x,h⟩:=h;exact⟨_,h⟩
    |n k=>obtain⟨x,h⟩:=h;exact⟨_,h⟩
    |o=>obtain⟨x,h⟩:=h;exact⟨_,h⟩
    |p=>obtain⟨x,h⟩:=h;exact⟨_,h⟩
    |HX=>obtain⟨x,y,h⟩:=h;exact⟨_,h⟩
    |st=>obtain⟨x,h⟩:=h;exact⟨_,h⟩
    |b=>obtain⟨x,h⟩:=h;exact⟨_,h⟩
    |im=>obtain⟨x,y,z,c,h⟩:=h;exact⟨_,h⟩
    |tJ c=>obtain⟨x,z,h⟩:=h;exact⟨_,h⟩
    |g_ l=>obtain⟨r,h⟩:=ad _ _ h;exact⟨_,h⟩
    |iY l=>obtain⟨r,h⟩:=ad _ _ h;exact⟨_,h⟩
    |HY t s=>obtain⟨r,h⟩:=aa _ _ h;exact⟨_,h⟩
    |fn f k=>obtain⟨x,h⟩:=h;exact⟨_,h⟩
    |ty t=>
     simp only at h
     split at h
     · obtain⟨x,h⟩:=h;exact⟨_,h⟩
     · obtain⟨x,h⟩:=h;exact⟨_,h⟩
     · obtain⟨x,h⟩:=h;exact⟨_,h⟩
     · obtain⟨x,h⟩:=h;exact⟨_,h⟩
     · obtain⟨r,h⟩:=ad _ _ h;exact⟨_,h⟩
     · obtain⟨r,h⟩:=ad _ _ h;exact⟨_,h⟩
     · exact⟨_,h⟩
     · obtain⟨x,h⟩:=h;exact⟨_,h⟩
     · exact⟨_,h⟩
  · simp only[qe] at h
    cases l with
    |nil=>exact⟨_,h⟩
    |cons s l=>
     obtain⟨x,h⟩:=aa _ _ h
     obtain⟨r,h⟩:=ad _ _ h
     exact⟨_,h⟩
theorem r0{P:Program}{n:Nat}{s:iZ}{K:ay->cv}(h:(shape P n s K).p):∃x,(K x).p:=(H5 n).1 s K h
theorem CV{p:Prop}{A B:cv}{dH:Option Bool}(h:(match dH with
  |none=>wi p (¬p) A B
  |some true=>fc p A
  |some false=>fc (¬p) B).p):(p/\A.p)\/(¬p/\B.p):=by
 cases dH with
 |none=>by_cases aL:p
        · exact .inl ⟨aL,h.1 aL⟩
        · exact .inr ⟨aL,h.2 aL⟩
 |some b=>cases b with
  |true=>exact .inl h
  |false=>exact .inr h
theorem zj:∀(s:ay) {dH:Option Bool} {A B:cv},(s.gX dH A B).p->s.rP=true/\((s.jt=true/\A.p)\/(s.jt=false/\B.p))
 |.iK,_,_,_,h=>⟨rfl,.inl ⟨rfl,h⟩⟩
 |.iL,_,_,_,h=>⟨rfl,.inr ⟨rfl,h⟩⟩
 |.lt i n,dH,A,B,h=>by
  refine⟨rfl,?_⟩
  rcases CV (p:=i<n) h with⟨aa,ad⟩|⟨aa,ad⟩
  · exact .inl ⟨oU aa,ad⟩
  · exact .inr ⟨tF aa,ad⟩
 |.le i n,dH,A,B,h=>by
  refine⟨rfl,?_⟩
  rcases CV (p:=i<=n) h with⟨aa,ad⟩|⟨aa,ad⟩
  · exact .inl ⟨zb aa,ad⟩
  · exact .inr ⟨HM aa,ad⟩
 |.eq i n,dH,A,B,h=>by
  refine⟨rfl,?_⟩
  rcases CV (p:=i=n) h with⟨aa,ad⟩|⟨aa,ad⟩
  · exact .inl ⟨qc aa,ad⟩
  · exact .inr ⟨oV aa,ad⟩
 |.bx s,dH,A,B,h=>by
  refine⟨rfl,?_⟩
  simp only[ay.gX] at h
  obtain⟨_,ad⟩:=zj s h
  simp only[ay.jt]
  rcases ad with⟨e,k⟩|⟨e,k⟩
  · right;exact⟨by rw[e];rfl,k⟩
  · left;exact⟨by rw[e];rfl,k⟩
 |.v a,dH,A,B,h=>by
  cases a<;>simp only[ay.gX] at h<;>first|(cases h;done)|skip
  rename_i x
  refine⟨rfl,?_⟩
  simp only[ay.jt]
  cases x with
  |true=>left;refine⟨rfl,?_⟩;cases dH with
   |none=>exact h.1 rfl
   |some b=>cases b with
    |true=>exact h.2
    |false=>cases h.1
  |false=>right;refine⟨rfl,?_⟩;cases dH with
   |none=>exact h.2 rfl
   |some b=>cases b with
    |true=>cases h.1
    |false=>exact h.2
 |.o a,_,_,_,h=>by simp only[ay.gX] at h;cases h
 |.iY l,_,_,_,h=>by simp only[ay.gX] at h;cases h
 |.g_ l,_,_,_,h=>by simp only[ay.gX] at h;cases h
section
variable {P:Program} {inR:Bool} {call:bt}
def ha(x:uZ)(K:nU)(bA:nV):Prop:=(∃s d q h,x=.ok (ay.den s) d q h/\(K s d q h).p)\/∃v d q h,x=.bK v d q h/\(bA v d q h).p
theorem ha.val{o:Oper}{g:Operand->I}{d:List bz}{q:bu}{h ao:ab}{K:nU}{bA:nV}{s:ay}(e:cj P o g h=.val s.den ao)(k:(K s d q ao).p):ha (dc P inR call none o g d q h) K bA:=
 .inl ⟨s,d,q,ao,by simp only[dc,dC,e],k⟩
theorem wm{K:cv}:∀(l:List ay),rX l=true->(rW l K).p->(ay.bH l).all I.cw=true/\K.p
 |[],_,h=>⟨rfl,h⟩
 |x::l,an,h=>by
  cases x with
  |o a=>
   obtain⟨aa,ad⟩:=h
   obtain⟨bJ,bR⟩:=wm l an ad
   exact⟨by simp only[ay.bH,List.all_cons,ay.den,aa,bJ,Bool.and_self],bR⟩
  |_=>
   simp only[rX,Bool.and_eq_true] at an
   simp only[rW] at h
   obtain⟨bJ,bR⟩:=wm l an.2 h
   exact⟨by simp only[ay.bH,List.all_cons,an.1,bJ,Bool.and_self],bR⟩
theorem CW{s:ay}{K:cv}(h:(tK s K).p):s.den.cells=rV s/\(rV s).all I.cw=true/\K.p:=by
 cases s with
 |o a=>
  obtain⟨aa,ad⟩:=h
  refine⟨?_,by simp[rV,aa],ad⟩
  show a.cells=[a]
  cases a<;>first|rfl|cases aa
 |iY l=>
  simp only[tK] at h
  split at h
  · rename_i an;exact⟨rfl,wm l an h⟩
  · cases h
 |_=>
  simp only[tK] at h
  split at h
  · rename_i an;exact⟨rfl,an,h⟩
  · cases h
theorem kg:∀l:List ay,ay.bH l=l.map ay.den
 |[]=>rfl
 |s::l=>by simp only[ay.bH,List.map_cons,kg l]
theorem Qm{s:ay}(h:(ay.bH (lv s)).all I.cw=true):s.den.cells=ay.bH (lv s)/\s.den≠ .bad:=by
 have one:∀a:I,a.cw=true->a.cells=[a]/\a≠ .bad:=λa aw=>by cases a<;>first|(cases aw;done)|exact⟨rfl,λh=>by cases h⟩
 have key:lv s=[s]->s.den.cells=ay.bH (lv s)/\s.den≠ .bad:=λe=>by
  rw[e] at h⊢
  simp only[ay.bH,List.all_cons,List.all_nil,Bool.and_true] at h⊢
  exact one _ h
 cases s with
 |iY l=>exact⟨rfl,nofun⟩
 |v a=>
  cases a with
  |agg cs=>
   refine⟨?_,nofun⟩
   show cs=ay.bH (cs.map kf)
   rw[kg,List.map_map]
   have:ay.den∘kf=id:=funext wj
   rw[this,List.map_id]
  |_=>exact key rfl
 |_=>exact key rfl
theorem Qn{place:Nat->Option (Nat×Nat)}{cells:List I}{i:Nat}{v:I}{rest:List (Nat×I)}{off size:Nat}(aD:v≠ .bad)(aL:place i=some (off,size))(ae:(Nat.beq v.cells.length size&&Nat.ble (off+size) cells.length)=true){cs:List I}(af:ff off v.cells cells=some cs):iz place cells ((i,v)::rest)=iz place cs rest:=by
 cases v<;>first|exact absurd rfl aD|simp only[iz,aL,ae,af]
theorem CX{place:Nat->Option (Nat×Nat)}:∀(ps:List (Nat×ay)) (cells cs:List ay),rY place cells ps=some cs->(ay.bH (md ps)).all I.cw=true->iz place (ay.bH cells) (ps.map λp=>(p.1,p.2.den))=some (ay.bH cs)
 |[],cells,cs,h,_=>by cases h;rfl
 |(i,s)::rest,cells,cs,h,aw=>by
  simp only[md,kg,List.map_append,List.all_append,Bool.and_eq_true] at aw
  rw[<-kg,<-kg] at aw
  obtain⟨bJ,bR⟩:=Qm aw.1
  simp only[rY] at h
  split at h
  · cases h
  · rename_i off size aL
    split at h
    · rename_i ae
      have ar:(ay.bH (lv s)).length=(lv s).length:=by rw[kg,List.length_map]
      have af:(ay.bH cells).length=cells.length:=by rw[kg,List.length_map]
      have e9:=ae
      simp only[Bool.and_eq_true,Nat.ble_eq] at e9
      have bh:=Nat.eq_of_beq_eq_true e9.1
      have q1:ff off s.den.cells (ay.bH cells)=some (ay.bH (cells.take off++lv s++(cells.drop off).drop (lv s).length)):=by
       have:=wc ((ay.bH cells).take off) (ay.bH (lv s)) ((ay.bH cells).drop off) aw.1 (by simp;omega)
       rw[List.length_take,Nat.min_eq_left (by omega),List.take_append_drop] at this
       rw[bJ,this,ar]
       simp only[kg,List.map_append,List.map_take,List.map_drop,List.append_assoc]
      rw[List.map_cons,Qn bR aL (by rw[bJ,ar,af];exact ae) q1]
      exact CX rest _ cs h aw.2
    · cases h
theorem H6{place:Nat->Option (Nat×Nat)}:∀(ps:List (Nat×ay)) (cells cs:List ay),rY place cells ps=some cs->(ay.bH cells).all I.cw=true->(ay.bH (md ps)).all I.cw=true->(ay.bH cs).all I.cw=true
 |[],cells,cs,h,af,_=>by cases h;exact af
 |(i,s)::rest,cells,cs,h,af,aw=>by
  simp only[md,kg,List.map_append,List.all_append,Bool.and_eq_true] at aw
  rw[<-kg,<-kg] at aw
  simp only[rY] at h
  split at h
  · cases h
  · split at h
    · refine H6 rest _ cs h ?_ aw.2
      rw[kg] at af⊢
      rw[List.all_eq_true] at af⊢
      have aa:=aw.1
      rw[kg,List.all_eq_true] at aa
      intro x J
      rw[List.map_append,List.map_append,List.mem_append,List.mem_append] at J
      rcases J with(J|J)|J
      · rw[List.map_take] at J;exact af x (List.mem_of_mem_take J)
      · exact aa x J
      · rw[List.map_drop,List.map_drop] at J;exact af x (List.mem_of_mem_drop (List.mem_of_mem_drop J))
    · cases h
theorem H7{t:TypeId}{len:Nat}{ps:List (Nat×ay)}{K:TypeId->List ay->cv}(h:(zh P t len ps K).p):∃e sz z cs,P.underlying t=some (.slice e)/\cY P e=some sz/\dt P e=some z/\(Nat.ble (len*sz) 16777216&&Nat.beq z.cells.length sz)=true/\iz (λi=>some (i*sz,sz)) (if len*sz=0 then[] else ew len z.cells) (ps.map λp=>(p.1,p.2.den))=some (ay.bH cs)/\(ay.bH cs).all I.cw=true/\(K e cs).p:=by
 unfold zh at h
 split at h
 · rename_i e hu
   split at h
   · rename_i sz z hs aP
     split at h
     · rename_i cs aa ad aq aC
       obtain⟨b8,k⟩:=wm _ aC h
       have da:ay.bH ((if len*sz=0 then[] else ew len z.cells).map kf)=(if len*sz=0 then[] else ew len z.cells):=by rw[kg,List.map_map,show ay.den∘kf=id from funext wj,List.map_id]
       have hf:=CX _ _ _ aq b8
       have af:=H6 _ _ _ aq (by rw[da];exact ad) b8
       rw[da] at hf
       exact⟨e,sz,z,cs,hu,hs,aP,aa,hf,af,rZ k⟩
     · cases h
   · cases h
 · cases h
theorem H8{g:Operand->ay}(parts:Array (Nat×Operand)):(parts.toList.map λp=>(p.1,g p.2)).map (λp=>(p.1,p.2.den))=parts.toList.map λp=>(p.1,(g p.2).den):=by
 rw[List.map_map];rfl
theorem H9{dH:Option nT}{t:TypeId}{f:dB}{args:List I}{d:List bz}{q:bu}{h:ab}{K:nU}{bA:nV}(J:(zi P call dH t f args d q h K bA).p):ha (u0 d q (call f args h)) K bA:=by
 unfold zi at J
 split at J
 · obtain⟨x,g,e,k⟩:=r0 J
   rw[e];exact .inr ⟨_,_,_,_,rfl,k⟩
 · rcases J with J|J
   · obtain⟨x,g,e,k⟩:=r0 J
     rw[e];exact .inl ⟨_,_,_,_,rfl,k⟩
   · obtain⟨x,g,e,k⟩:=r0 J
     rw[e];exact .inr ⟨_,_,_,_,rfl,k⟩
 · obtain⟨x,g,e,k⟩:=r0 J
   rw[e];exact .inl ⟨_,_,_,_,rfl,k⟩
theorem r3{dH:Option nT}{o:Oper}{g:Operand->ay}{d:List bz}{q:bu}{h:ab}{K:nU}{bA:nV}(J:(oX P inR call dH o g d q h K bA).p):ha (dc P inR call none o (λx=>(g x).den) d q h) K bA:=by
 unfold oX at J
 split at J
 · split at J
   · rename_i v ao he
     split at J
     · exact ha.val (s:=.o v) he J
     · exact ha.val (s:=.v v) he J
   · rename_i v ao he
     exact .inr ⟨v,d,q,ao,by simp only[dc,dC,he],J⟩
   · rename_i f args ao he
     have:=H9 J
     simpa only[dc,dC,he] using this
   · rename_i l args ao he
     have:=H9 J
     simpa only[dc,dC,he] using this
   · rename_i x he
     split at J
     · cases J
     · exact .inl ⟨.v (.aJ []),_,_,_,by simp only[dc,dC,he];rfl,J⟩
   · rename_i he
     split at J
     · cases J
     · split at J
       · exact .inl ⟨.v .ea,_,_,_,by simp only[dc,dC,he];rfl,J⟩
       · exact .inl ⟨.v .ea,_,_,_,by simp only[dc,dC,he];rfl,J⟩
       · rename_i v
         exact .inl ⟨.v v,_,_,_,by simp only[dc,dC,he];rfl,J⟩
   · cases J
 · obtain⟨x,c,k⟩:=r0 J
   exact ha.val (rL c) k
 · obtain⟨x,ao,c,k⟩:=r0 J
   exact ha.val (Cv c) k
theorem Qo{op:BinOp}{x y s:ay}(J:CP op x y=some s)(h:ab)(t:TypeId)(a b:Operand):e1 P h op t a b x.den y.den=some s.den:=by
 unfold CP at J
 split at J
 · rename_i k cb dA g7
   split at J
   · rename_i an
     obtain rfl:k=dA:=of_decide_eq_true an
     split at J<;>first|(cases J;done)|(cases J;simp only[ay.den,e1,arith,if_true,ay.jt])
   · cases J
 · cases J
theorem Qp{op:BinOp}{x y s:ay}{t:TypeId}(J:CS P op t x y=some s)(h:ab)(a b:Operand):e1 P h op t a b x.den y.den=some s.den:=by
 unfold CS at J
 split at J
 · rename_i ae hu
   rw[Bool.and_eq_true] at ae
   cases J
   rw[ay.nW ae.1,ay.nW ae.2]
   simp only[e1,po,if_true,e0,hu,ay.den,hp]
 · rename_i ae hu
   rw[Bool.and_eq_true] at ae
   cases J
   rw[ay.nW ae.1,ay.nW ae.2]
   simp only[e1,po,if_true,e0,hu,ay.den,ay.jt,hp]
 · cases J
theorem Qq{op:BinOp}{x y:ay}{p:Prop}{v:I}(J:CQ op x y=some (p,v))(aL:p)(h:ab)(t:TypeId)(a b:Operand):e1 P h op t a b x.den y.den=some v:=by
 unfold CQ at J
 split at J
 · rename_i k cb dA g7
   split at J
   · rename_i an;cases J;obtain rfl:=of_decide_eq_true an
     simp only[ay.den,e1,if_true];exact P7 aL
   · rename_i an;cases J;obtain rfl:=of_decide_eq_true an
     simp only[ay.den,e1,if_true];exact CI aL.1 aL.2
   · rename_i an;cases J;obtain rfl:=of_decide_eq_true an
     simp only[ay.den,e1,if_true];exact P8 aL
   · rename_i an;cases J;obtain rfl:=of_decide_eq_true an
     simp only[ay.den,e1,if_true];exact P_ aL
   · rename_i an;cases J;obtain rfl:=of_decide_eq_true an
     simp only[ay.den,e1,if_true];exact Qa aL.1 aL.2
   · cases J
 · split at J
   · cases J
     simp only[ay.den,e1];exact HK aL
   · cases J
 · cases J
theorem Qr{dH:Option nT}{o:Oper}{g:Operand->ay}{d:List bz}{q:bu}{h:ab}{K:nU}{bA:nV}(J:(CT P inR call dH o g d q h K bA).p):ha (dc P inR call none o (λx=>(g x).den) d q h) K bA:=by
 unfold CT at J
 split at J
 · rename_i x aQ
   exact ha.val (s:=g x) (by simp only[cj,aQ]) (ay.kO J)
 · rename_i x aQ
   exact ha.val (s:=g x) (by simp only[cj,aQ]) (ay.kO J)
 · rename_i t x aQ
   split at J
   · rename_i ae
     exact ha.val (s:=.bx (g x)) (by simp only[cj,aQ,ay.nW ae];rfl) (ay.kO J)
   · cases J
 · rename_i op t x y yt aQ
   replace J:=ay.kO (ay.kO J)
   have key:∀{s:ay},e1 P h op t x y (g x).den (g y).den=some s.den->(K s d q h).p->ha (dc P inR call none o (λx=>(g x).den) d q h) K bA:=λ{s} e k=>ha.val (s:=s) (by simp only[cj,aQ,e,eS]) k
   split at J
   · rename_i s hs
     split at hs
     · rename_i a6 c_;cases hs;exact key (Qo c_ h t x y) J
     · exact key (Qp hs h x y) J
   · split at J
     · split at J
       · rename_i v aD;exact key (s:=kf v) (by rw[wj];exact aD) (ay.kO J)
       · cases J
     · split at J
       · rename_i p v aL
         cases dH with
         |none=>exact key (s:=.v v) (Qq aL J.1 h t x y) J.2
         |some _=>cases aL
       · exact r3 J
 · rename_i x i aQ
   split at J
   · rename_i l ar
     split at J
     · rename_i s hs
       exact ha.val (s:=s) (by simp only[cj,aQ,ar,ay.den,HZ _ _ _ hs,eS]) (ay.kO J)
     · cases J
   · exact r3 J
 · rename_i t x i aQ
   split at J
   · rename_i m e b off n hu p7 ag
     split at J
     · rename_i sz aP
       exact ha.val (s:=.v (.ptr b (off+n*sz))) (by simp only[cj,aQ,hu,p7,ay.den,ag,aP,if_pos J.1]) J.2
     · cases J
   · rename_i e b off m c n hu p7 ag
     split at J
     · rename_i sz aP
       exact ha.val (s:=.v (.ptr b (off+n*sz))) (by simp only[cj,aQ,hu,p7,ay.den,ag,aP,if_pos J.1]) J.2
     · cases J
   · cases J
 · rename_i t a x aQ
   split at J
   · rename_i b off n wo aP
     split at J
     · rename_i ar
       obtain⟨ax,av,fr,bq,k⟩:=CW (ay.kO J)
       have af:tz P o (λy=>(g y).den) h (.aJ []) fr:=by
        unfold tz
        rw[aQ]
        simp only[wo]
        rw[ax]
        exact⟨by rw[aP,Nat.eq_of_beq_eq_true ar],bq,trivial⟩
       exact ha.val (s:=.v (.aJ [])) (Cv af) k
     · cases J
   · cases J
 · rename_i t parts aQ
   split at J
   · exact r3 J
   · split at J
     · rename_i z b0 aP hu
       split at J
       · rename_i cs aa ad aq
         obtain⟨b8,k⟩:=wm _ aq J
         have hf:=CX _ _ _ ad b8
         rw[show ay.bH (z.cells.map kf)=z.cells by rw[kg,List.map_map,show ay.den∘kf=id from funext wj,List.map_id],List.map_map] at hf
         exact ha.val (s:=.iY cs) (by simp only[cj,aQ,aP,hu,aa];exact by rw[show(parts.toList.map λp=>(p.1,(g p.2).den))=parts.toList.map ((λp=>(p.1,ay.den p.2))∘ λp=>(p.1,g p.2)) from rfl,hf];rfl) (rZ k)
       · cases J
     · cases J
 · rename_i t len parts aQ
   split at J
   · exact r3 J
   · obtain⟨e,sz,z,cs,hu,hs,aP,aa,hf,af,k⟩:=H7 J
     rw[H8] at hf
     exact ha.val (s:=.v (.slice h.n 0 len (.exact len))) (by simp only[cj,aQ,hu,hs,aP,aa,hf,newRow,af];rfl) k
 · rename_i e x aQ
   obtain⟨ax,av,k⟩:=CW (ay.kO J)
   exact ha.val (s:=.v (.ptr h.n 0)) (by simp only[cj,aQ,newRow,ax,av];rfl) k
 · rename_i c aQ
   split at J
   · rename_i h9
     split at J
     · rename_i a t aw bm
       obtain⟨n,e,k⟩:=J
       have gD:c.args.toList.map (λy=>(g y).den)=[a]:=by
        have:(c.args.toList.map g).map ay.den=[a]:=by rw[aw];rfl
        rw[List.map_map] at this;exact this
       have af:mU P o (λy=>(g y).den) h (.int .i64 (.ofNat n)):=by
        unfold mU
        rw[aQ]
        simp only[h9,gD,bm]
        exact e
       exact ha.val (s:=.v (.int .i64 (.ofNat n))) (rL af) k
     · exact r3 J
   · exact r3 J
 · exact r3 J
end
def keyOf(hq i:Nat)(o:Oper):Nat:=match o.dst with
 |some t=>t
 |none=>3000+50*hq+i
section
variable (P:Program) (need:Nat)
def jQ(m:Nat)(env:List ay)(Γ:cN)(loc:List (Nat×Acc))(x:Operand):ay:=match kM m env Γ (cl P need loc x) with
 |some s=>s
 |none=>.v .bad
def zk(m:Nat)(env:List ay)(Γ:cN)(loc:List (Nat×Acc))(o:Oper):Bool:=o.op.operands.toList.all λx=>(kM m env Γ (cl P need loc x)).isSome
def zl(dH:Option Bool)(gd:Option (Acc×Bool))(m:Nat)(env:List ay)(Γ:cN)(tO tP:List ay->cN->cv):cv:=match gd with
 |none=>tO env Γ
 |some (a,b)=>match kM m env Γ a with
  |none=>bad "guard"
  |some s=>match s with
   |.v (.aJ [])=>tP env Γ
   |s=>s.gX dH (qd (tI m a .iK env) λenv=>mc (rT a .iK Γ) λΓ=>(match b with|true=>tO env Γ|false=>tP env Γ)) (qd (tI m a .iL env) λenv=>mc (rT a .iL Γ) λΓ=>(match b with|true=>tP env Γ|false=>tO env Γ))
variable (inR:Bool) (call:bt)
def wq(pl:ju)(key m:Nat)(env:List ay)(Γ:cN)(loc:List (Nat×Acc))(o:Oper)(d:List bz)(q:bu)(h:ab)(K:List ay->cN->nU)(bA:cN->nV):cv:=match o.op with
 |.pick c a b=>match kM m env Γ (cl P need loc c) with
  |none=>bad "pick"
  |some s=>s.gX (zg (rU (2000+key) pl)) (qd (tI m (cl P need loc c) .iK env) λeu=>mc (rT (cl P need loc c) .iK Γ) λb3=>(jQ P need m env Γ loc a).kN λx=>K eu b3 x d q h) (qd (tI m (cl P need loc c) .iL env) λeu=>mc (rT (cl P need loc c) .iL Γ) λb3=>(jQ P need m env Γ loc b).kN λx=>K eu b3 x d q h)
 |_=>CT P inR call (rU key pl) o (jQ P need m env Γ loc) d q h (K env Γ) (bA Γ)
def wu(pl:ju)(hq:Nat):List Step->List ay->cN->List bz->bu->ab->(List ay->cN->List bz->bu->ab->cv)->(I->cN->List bz->bu->ab->cv)->cv
 |[],env,Γ,d,q,h,K,_=>K env Γ d q h
 |s::rest,env,Γ,d,q,h,K,bA=>match zk P need s.m env Γ s.loc s.o with
  |false=>bad ("an operand " ++s.o.pos)
  |true=>zl (zg (rU (1000+keyOf hq s.m s.o) pl)) s.guard s.m env Γ
   (λenv Γ=>wq P need inR call pl (keyOf hq s.m s.o) s.m env Γ s.loc s.o d q h (λenv Γ v d q h=>wu pl hq rest (v::env) Γ d q h K bA) (λΓ v d q h=>bA v Γ d q h))
   (λenv Γ=>wu pl hq rest (.v (.aJ [])::env) Γ d q h K bA)
def r4(t:Nat):cN->cN
 |[]=>[]
 |(u,s)::l=>match Nat.beq t u with
  |true=>r4 t l
  |false=>(u,s)::r4 t l
def r5(m:Nat)(env:List ay)(fs:cN):List (Nat×Acc)->cN->cN
 |[],Γ=>Γ
 |(t,a)::l,Γ=>match Nat.testBit need t with
  |true=>match kM m env fs a with
   |some s=>(t,s)::r4 t (r5 m env fs l Γ)
   |none=>r4 t (r5 m env fs l Γ)
  |false=>r5 m env fs l Γ
def wv:List (Nat×Acc)->cN->cN
 |[],Γ=>Γ
 |(t,_)::l,Γ=>r4 t (wv l Γ)
abbrev lx:=List (Nat×Nat×ab×Nat)
def hr:lx->l8
 |[]=>[]
 |(e,m,h,_)::l=>(e,m,h)::hr l
def zm(o:Oper)(g:Operand->ay):Bool:=match o.op with
 |.move _|.assign _|.pick .. |.build .. |.nilCheck _|.makeInterface .. |.makeFunc .. |.fieldAddr .. |.field .. |.indexAddr .. |.index .. |.extract .. |.typeAssert .. =>true
 |.unOp .. =>true
 |.binOp _ _ x y _=>match g x,g y with
  |.v (.int _ _),.v (.int _ _)=>true
  |.v (.str _),.v (.str _)=>true
  |x,y=>x.rP&&y.rP
 |.call c=>match c.callee with
  |.builtin .len=>match c.argTypes[0]? with
   |some t=>match P.underlying t with
    |some (.slice _)=>true
    |some .string=>true
    |_=>false
   |none=>false
  |_=>false
 |_=>false
def tQ:List ay->cv->cv
 |[],K=>K
 |.o a::l,K=>fc (a.sound=true) (tQ l K)
 |s::l,K=>match s.den.sound with
  |true=>tQ l K
  |false=>bad "sound"
def CY:ay->cv->cv
 |.o a,K=>fc (a.sound=true) K
 |.iK,K|.iL,K|.lt _ _,K|.le _ _,K|.eq _ _,K|.bx _,K=>K
 |.v a,K=>match a.sound with
  |true=>K
  |false=>bad "sound"
 |.iY l,K=>tQ l K
 |.g_ l,K=>match iv (ay.bH l) with
  |true=>K
  |false=>bad "sound"
def tR(s:DStep)(fR:Nat):Option Nat->ab->Nat->lx->List (Option ab)
 |df,h,b_,aX=>
  (match oS s df (hr aX) with
   |true=>[]
   |false=>[match Nat.beq b_ fR with|true=>none|false=>some h])++
  (match aX with
   |[]=>[]
   |(e,_,ao,jR)::rest=>tR s fR (some e) ao jR rest)
def tS(o:Oper)(g:Operand->I)(v:I)(qf:Bool):List (Option ab)->cv->cv
 |[],K=>K
 |none::l,K=>tS o g v qf l K
 |some h::l,K=>match qf with
  |true=>tS o g v qf l K
  |false=>fc (mU P o g h v) (tS o g v qf l K)
def kh(ops:Array Oper)(n:Nat)(env:List ay)(c6:List Nat)(Γ:cN)(last:Option Nat)(h:ab)(b_:Nat)(aX:lx):List DStep->cv->cv
 |[],K=>K
 |s::rest,K=>match Nat.blt s.i n,kindOf P s.o.op with
  |true,.pure=>match rR (n-1-s.i) env,nth (n-1-s.i) c6 with
   |some v,some fR=>match tR s fR last h b_ aX with
    |[]=>kh ops n env c6 Γ last h b_ aX rest K
    |l=>match v with
     |.v (.aJ [])=>match il P need ops s.loc s.o with
      |some (a,b)=>match kM n env Γ a with
       |some (.v (.aJ []))=>kh ops n env c6 Γ last h b_ aX rest K
       |some .iK=>match b with
        |false=>kh ops n env c6 Γ last h b_ aX rest K
        |true=>bad "look"
       |some .iL=>match b with
        |true=>kh ops n env c6 Γ last h b_ aX rest K
        |false=>bad "look"
       |_=>bad "look"
      |none=>bad "look"
     |v=>CY v (tS P s.o (λx=>(jQ P need n env Γ s.loc x).den) v.den (zm P s.o (jQ P need n env Γ s.loc)) l (kh ops n env c6 Γ last h b_ aX rest K))
   |_,_=>bad "look"
  |_,_=>kh ops n env c6 Γ last h b_ aX rest K
def CZ(op:Op)(g:Operand->ay)(b:Nat)(K:ay->cX->cv):cv:=match op with
 |.box e x=>(g x).kN λs=>tK s (K (.v (.ptr b 0)) (.cells (rV s) e .own 0 0))
 |.makeSlice t l c=>match eb (g l).den with
  |some mJ=>fC λz:cX=>fc (Hp P t (g l).den (g c).den b=some (.slice b 0 mJ (match eb (g c).den with|some c'=>.exact c'|none=>.dead),z)) (K (.v (.slice b 0 mJ (match eb (g c).den with|some c'=>.exact c'|none=>.dead))) z)
  |none=>bad "makeSlice"
 |.buildSlice t len parts=>match(md (parts.toList.map λp=>(p.1,g p.2))).any ay.CR with
  |true=>zh P t len (parts.toList.map λp=>(p.1,g p.2)) λe cs=>K (.v (.slice b 0 len (.exact len))) (.cells (ay.bH cs) e .own 0 0)
  |false=>match iO P (.buildSlice t len parts) (λx=>(g x).den) b with
   |some (v,o)=>K (.v v) o
   |none=>bad "alloc"
 |op=>match iO P op (λx=>(g x).den) b with
  |some (v,o)=>K (.v v) o
  |none=>bad "alloc"
abbrev qg:=List ay->List Nat->cN->List bz->bu->ab->Nat->lx->cv
def qh(pl:ju)(hq:Nat)(ops:Array Oper)(cm:Nat):List DStep->List ay->List Nat->cN->List bz->bu->ab->Nat->lx->qg->(I->qg)->cv
 |[],env,c6,Γ,d,q,h,b_,aX,K,_=>K env c6 Γ d q h b_ aX
 |s::rest,env,c6,Γ,d,q,h,b_,aX,K,bA=>match zk P need s.i env Γ s.loc s.o with
  |false=>bad ("an operand " ++s.o.pos)
  |true=>zl (zg (rU (1000+keyOf hq s.i s.o) pl)) (il P need ops s.loc s.o) s.i env Γ
   (λenv Γ=>match kindOf P s.o.op with
    |.alloc=>CZ P s.o.op (jQ P need s.i env Γ s.loc) (cm+s.i) λv o=>qh pl hq ops cm rest (v::env) (b_::c6) Γ d q (h.set (cm+s.i) (some o)) (b_+1) aX K bA
    |.pure=>wq P need inR call pl (keyOf hq s.i s.o) s.i env Γ s.loc s.o d q h (λenv Γ v _ _ _=>qh pl hq ops cm rest (v::env) (b_::c6) Γ d q h b_ aX K bA) (λ_ _ _ _ _=>bad "a panic")
    |.du=>match rI s (hr aX) with
     |false=>bad "order"
     |true=>wq P need inR call pl (keyOf hq s.i s.o) s.i env Γ s.loc s.o d q h (λenv Γ v aW a0 ao=>qh pl hq ops cm rest (v::env) (b_::c6) Γ aW a0 ao (b_+1) ((s.i,s.ed,h,b_)::aX) K bA)
      (λΓ v aW a0 ao=>match rest.all (λa6=>Nat.testBit a6.ed s.i) with
       |true=>bA v env c6 Γ aW a0 ao (b_+1) ((s.i,s.ed,h,b_)::aX)
       |false=>bad "panic"))
   (λenv Γ=>match kindOf P s.o.op with
    |.du=>match rI s (hr aX) with
     |false=>bad "order"
     |true=>qh pl hq ops cm rest (.v (.aJ [])::env) (b_::c6) Γ d q h b_ ((s.i,s.ed,h,b_)::aX) K bA
    |_=>qh pl hq ops cm rest (.v (.aJ [])::env) (b_::c6) Γ d q h b_ aX K bA)
end
section
variable {P:Program} {need:Nat} {inR:Bool} {call:bt}
theorem C0{m:Nat}{env:List ay}{Γ:cN}{loc:List (Nat×Acc)}{x:Operand}:(jQ P need m env Γ loc x).den=(gb m (ay.bH env) (cB Γ) (cl P need loc x)).getD .bad:=by
 rw[<-tL]
 unfold jQ
 split<;>rename_i h<;>rw[h]<;>rfl
theorem H_{m:Nat}{env:List ay}{Γ:cN}{loc:List (Nat×Acc)}{o:Oper}(h:zk P need m env Γ loc o=true):∀x∈o.op.operands,(gb m (ay.bH env) (cB Γ) (cl P need loc x)).isSome=true:=by
 intro x J
 unfold zk at h
 rw[List.all_eq_true] at h
 have:=h x (by simpa using J)
 rw[<-tL,Option.isSome_map];exact this
theorem C1{r:aN}{G:Env}(hm:Mod r G){m:Nat}{l:List I}{loc:List (Nat×Acc)}{o:Oper}(h:∀x∈o.op.operands,(gb m l G (cl P need loc x)).isSome=true):∀x∈o.op.operands,c1 m l r (cl P need loc x)=(gb m l G (cl P need loc x)).getD .bad:=by
 intro x J
 obtain⟨v,aD⟩:=Option.isSome_iff_exists.1 (h x J)
 rw[tM hm aD,aD];rfl
def mZ(m:Nat)(l:List I)(G:Env)(gd:Option (Acc×Bool))(W:Bool):Prop:=match gd with
 |none=>W=true
 |some (a,b)=>∃bl,gb m l G a=some bl/\dC (some (bl,b))=some W
theorem mZ.ok{m:Nat}{l:List I}{G:Env}{gd:Option (Acc×Bool)}{W:Bool}(h:mZ m l G gd W){r:aN}(hm:Mod r G):dC (gd.map λx=>(c1 m l r x.1,x.2))=some W:=by
 cases gd with
 |none=>cases h;rfl
 |some x=>
  obtain⟨bl,aa,ad⟩:=h
  simp only[Option.map_some,tM hm aa,ad]
theorem mZ.more{m:Nat}{l:List I}{G:Env}{gd:Option (Acc×Bool)}{W:Bool}(h:mZ m l G gd W)(x:I):mZ (m+1) (x::l) G gd W:=by
 cases gd with
 |none=>exact h
 |some y=>
  obtain⟨bl,aa,ad⟩:=h
  exact⟨bl,wk x aa,ad⟩
theorem Ia{dH:Option Bool}{gd:Option (Acc×Bool)}{m:Nat}{env:List ay}{Γ:cN}{tO tP:List ay->cN->cv}(h:(zl dH gd m env Γ tO tP).p):
  ∃eu b3,ay.bH eu=ay.bH env/\cB b3=cB Γ/\eu.length=env.length/\(((tO eu b3).p/\mZ m (ay.bH env) (cB Γ) gd true)\/((tP eu b3).p/\mZ m (ay.bH env) (cB Γ) gd false)):=by
 unfold zl at h
 split at h
 · exact⟨env,Γ,rfl,rfl,rfl,.inl ⟨h,rfl⟩⟩
 · rename_i a b
   split at h
   · cases h
   · rename_i s hs
     have h8:gb m (ay.bH env) (cB Γ) a=some s.den:=by rw[<-tL,hs];rfl
     split at h
     · exact⟨env,Γ,rfl,rfl,rfl,.inr ⟨h,_,h8,rfl⟩⟩
     · obtain⟨ae,J⟩:=zj _ h
       have ak:=ay.nW ae
       rcases J with⟨bm,an⟩|⟨bm,an⟩
       · rw[bm] at ak
         obtain⟨ax,av,bq⟩:=tN (x:=.iK) hs ak
         refine⟨_,_,ax,av,bq,?_⟩
         have an:=mY (rZ an)
         cases b with
         |true=>exact .inl ⟨an,_,h8,by rw[ak];rfl⟩
         |false=>exact .inr ⟨an,_,h8,by rw[ak];rfl⟩
       · rw[bm] at ak
         obtain⟨ax,av,bq⟩:=tN (x:=.iL) hs ak
         refine⟨_,_,ax,av,bq,?_⟩
         have an:=mY (rZ an)
         cases b with
         |true=>exact .inr ⟨an,_,h8,by rw[ak];rfl⟩
         |false=>exact .inl ⟨an,_,h8,by rw[ak];rfl⟩
theorem C2{pl:ju}{key m:Nat}{env:List ay}{Γ:cN}{loc:List (Nat×Acc)}{o:Oper}{d:List bz}{q:bu}{h:ab}{K:List ay->cN->nU}{bA:cN->nV}(J:(wq P need inR call pl key m env Γ loc o d q h K bA).p):
  ∃eu b3,ay.bH eu=ay.bH env/\cB b3=cB Γ/\eu.length=env.length/\ha (dc P inR call none o (λx=>(gb m (ay.bH env) (cB Γ) (cl P need loc x)).getD .bad) d q h) (K eu b3) (bA b3):=by
 have aj:(λx=>(gb m (ay.bH env) (cB Γ) (cl P need loc x)).getD .bad)=λx=>(jQ P need m env Γ loc x).den:=funext λx=>C0.symm
 unfold wq at J
 split at J
 · rename_i c a b aQ
   split at J
   · cases J
   · rename_i s hs
     obtain⟨ae,aO⟩:=zj _ J
     have ak:=ay.nW ae
     have y1:(jQ P need m env Γ loc c).den=s.den:=by unfold jQ;rw[hs]
     rw[aj]
     rcases aO with⟨bm,an⟩|⟨bm,an⟩
     · rw[bm] at ak
       obtain⟨ax,av,bq⟩:=tN (x:=.iK) hs ak
       exact⟨_,_,ax,av,bq,ha.val (s:=jQ P need m env Γ loc a) (by simp only[cj,aQ,y1,ak]) (ay.kO (mY (rZ an)))⟩
     · rw[bm] at ak
       obtain⟨ax,av,bq⟩:=tN (x:=.iL) hs ak
       exact⟨_,_,ax,av,bq,ha.val (s:=jQ P need m env Γ loc b) (by simp only[cj,aQ,y1,ak]) (ay.kO (mY (rZ an)))⟩
 · rw[aj]
   exact⟨env,Γ,rfl,rfl,rfl,Qr J⟩
theorem C3{r:aN}{s:Step}{rest:List Step}{env:List I}{d:List bz}{q:bu}{h:ab}:hh P need inR call r (s::rest) env d q h=match dc P inR call (s.guard.map λx=>(c1 s.m env r x.1,x.2)) s.o (λx=>c1 s.m env r (cl P need s.loc x)) d q h with
  |.ok v aW a0 ao=>hh P need inR call r rest (v::env) aW a0 ao
  |.bK v aW a0 ao=>.bK v aW a0 ao
  |.fail w=>.fail w:=by
 obtain⟨gd,o,loc,m⟩:=s
 cases gd<;>rfl
theorem C4{pl:ju}{hq:Nat}:∀(l:List Step) (env:List ay) (Γ:cN) (d:List bz) (q:bu) (h:ab) {K:List ay->cN->List bz->bu->ab->cv} {bA:I->cN->List bz->bu->ab->cv},(wu P need inR call pl hq l env Γ d q h K bA).p->
  (∃eu b3 aW a0 ao,(∀r,Mod r (cB Γ)->hh P need inR call r l (ay.bH env) d q h=.ok (ay.bH eu) aW a0 ao)/\cB b3=cB Γ/\(K eu b3 aW a0 ao).p)\/∃v b3 aW a0 ao,(∀r,Mod r (cB Γ)->hh P need inR call r l (ay.bH env) d q h=.bK v aW a0 ao)/\cB b3=cB Γ/\(bA v b3 aW a0 ao).p
 |[],env,Γ,d,q,h,K,bA,J=>.inl ⟨env,Γ,d,q,h,λ_ _=>rfl,rfl,J⟩
 |s::rest,env,Γ,d,q,h,K,bA,J=>by
  simp only[wu] at J
  split at J
  · cases J
  · rename_i an
    have hD:∀r,Mod r (cB Γ)->∀gd,dc P inR call gd s.o (λx=>c1 s.m (ay.bH env) r (cl P need s.loc x)) d q h=dc P inR call gd s.o (λx=>(gb s.m (ay.bH env) (cB Γ) (cl P need s.loc x)).getD .bad) d q h:=λr hm gd=>rC (C1 hm (H_ an))
    obtain⟨me,fG,ax,av,bq,hw⟩:=Ia J
    rcases hw with⟨hw,nX⟩|⟨hw,nX⟩
    · obtain⟨m0,hW,f1,f2,f3,aQ⟩:=C2 hw
      rw[ax,av] at aQ
      rcases aQ with⟨x,d1,aV,aa,he,cZ⟩|⟨v,d1,aV,aa,he,cZ⟩
      · have a3:=C4 rest (x::m0) hW d1 aV aa cZ
        have key:∀r,Mod r (cB Γ)->hh P need inR call r (s::rest) (ay.bH env) d q h=hh P need inR call r rest (ay.bH (x::m0)) d1 aV aa:=λr hm=>by
         rw[C3,hD r hm,tD (nX.ok hm),he]
         simp only[ay.bH,f1,ax]
        rw[f2,av] at a3
        rcases a3 with⟨eu,b3,aW,a0,ao,i1,i2,i3⟩|⟨v,b3,aW,a0,ao,i1,i2,i3⟩
        · exact .inl ⟨eu,b3,aW,a0,ao,λr hm=>(key r hm).trans (i1 r hm),i2,i3⟩
        · exact .inr ⟨v,b3,aW,a0,ao,λr hm=>(key r hm).trans (i1 r hm),i2,i3⟩
      · refine .inr ⟨v,hW,d1,aV,aa,λr hm=>?_,f2.trans av,cZ⟩
        rw[C3,hD r hm,tD (nX.ok hm),he]
    · have a3:=C4 rest (.v (.aJ [])::me) fG d q h hw
      have key:∀r,Mod r (cB Γ)->hh P need inR call r (s::rest) (ay.bH env) d q h=hh P need inR call r rest (ay.bH (.v (.aJ [])::me)) d q h:=λr hm=>by
       rw[C3,v8 (nX.ok hm)]
       simp only[ay.bH,ay.den,ax]
      rw[av] at a3
      rcases a3 with⟨eu,b3,aW,a0,ao,i1,i2,i3⟩|⟨v,b3,aW,a0,ao,i1,i2,i3⟩
      · exact .inl ⟨eu,b3,aW,a0,ao,λr hm=>(key r hm).trans (i1 r hm),i2,i3⟩
      · exact .inr ⟨v,b3,aW,a0,ao,λr hm=>(key r hm).trans (i1 r hm),i2,i3⟩
theorem wx(t:Nat):∀Γ:cN,cB (r4 t Γ)=del t (cB Γ)
 |[]=>rfl
 |(u,s)::l=>by
  simp only[r4,cB,del]
  cases Nat.beq t u with
  |true=>exact wx t l
  |false=>simp only[cB];rw[wx t l]
theorem C5{m:Nat}{env:List ay}{eM:aN}{fs:cN}(hm:Mod eM (cB fs)):∀(l:List (Nat×Acc)) (r:aN) (Γ:cN),Mod r (cB Γ)->Mod (nw need m (ay.bH env) eM l r) (cB (r5 need m env fs l Γ))
 |[],r,Γ,h=>h
 |(t,a)::l,r,Γ,h=>by
  have a3:=C5 (m:=m) (env:=env) hm l r Γ h
  simp only[nw,r5]
  cases Nat.testBit need t with
  |false=>exact a3
  |true=>
   cases aj:kM m env fs a with
   |some s=>
    have:gb m (ay.bH env) (cB fs) a=some s.den:=by rw[<-tL,aj];rfl
    simp only[cB,wx]
    rw[tM hm this];exact a3.put t s.den
   |none=>simp only[wx];exact a3.del t _
theorem C6:∀(l:List (Nat×Acc)) (r:aN) (Γ:cN),Mod r (cB Γ)->Mod (sS l r) (cB (wv l Γ))
 |[],r,Γ,h=>h
 |(t,a)::l,r,Γ,h=>by simp only[wv,wx];exact(C6 l r Γ h).del t _
theorem Ib:∀(ops:List Oper) (n:Nat) (loc:List (Nat×Acc)) (fy:List Nat) (k:Nat) (s:DStep),(ei ops n loc fy)[k]? =some s->s.i=n+k
 |[],n,loc,fy,k,s,h=>by simp[ei] at h
 |o::l,n,loc,fy,0,s,h=>by simp only[ei,List.getElem?_cons_zero,Option.some.injEq] at h;rw[<-h];rfl
 |o::l,n,loc,fy,k+1,s,h=>by
  simp only[ei,List.getElem?_cons_succ] at h
  have:=Ib l (n+1) _ _ k s h
  omega
def tT(P:Program)(need:Nat)(ops:Array Oper)(s:DStep)(n:Nat)(l:List I)(G:Env)(c6:List Nat)(H:Nat->ab):Prop:=s.i<n/\(kindOf P s.o.op=.pure->(∀x∈s.o.op.operands,(gb n l G (cl P need s.loc x)).isSome=true)/\∀v fR,nth (n-1-s.i) l=some v->nth (n-1-s.i) c6=some fR->mZ n l G (il P need ops s.loc s.o) false\/(mZ n l G (il P need ops s.loc s.o) true/\∃ao,cj P s.o (λx=>(gb n l G (cl P need s.loc x)).getD .bad) (H fR)=.val v ao))
theorem Qs{α:Type}{n i:Nat}(h:i<n)(x:α)(l:List α):nth (n+1-1-i) (x::l)=nth (n-1-i) l:=by
 have:n+1-1-i=(n-1-i)+1:=by omega
 rw[this];rfl
theorem Ic{α:Type}:∀(n:Nat) (l:List α) (x:α),nth n l=some x->x∈l
 |0,[],_,h=>by cases h
 |_+1,[],_,h=>by cases h
 |0,y::l,x,h=>by cases h;exact List.mem_cons_self
 |n+1,y::l,x,h=>List.mem_cons_of_mem _ (Ic n l x h)
theorem tT.more{ops:Array Oper}{s:DStep}{n:Nat}{l:List I}{G:Env}{c6:List Nat}{H aI:Nat->ab}(h:tT P need ops s n l G c6 H)(x:I)(y:Nat)(cQ:∀fR∈c6,aI fR=H fR):tT P need ops s (n+1) (x::l) G (y::c6) aI:=by
 obtain⟨aa,ad⟩:=h
 refine⟨by omega,λan=>?_⟩
 obtain⟨bJ,bR⟩:=ad an
 refine⟨λz aP=>?_,λv fR aD kP=>?_⟩
 · obtain⟨w,hw⟩:=Option.isSome_iff_exists.1 (bJ z aP)
   rw[wk x hw];rfl
 · rw[Qs aa] at aD kP
   rcases bR v fR aD kP with e|⟨da,ao,e⟩
   · exact .inl (e.more x)
   · have Qt:=Ic _ _ _ kP
     refine .inr ⟨da.more x,ao,?_⟩
     rw[cQ fR Qt,<-e]
     exact vN s.o _ λz aP=>by
      obtain⟨w,hw⟩:=Option.isSome_iff_exists.1 (bJ z aP)
      rw[wk x hw,hw]
end
section
variable {P:Program} {need:Nat} {inR:Bool} {call:bt}
theorem zn:∀l:List ay,(ay.bH l).length=l.length
 |[]=>rfl
 |_::l=>by simp only[ay.bH,List.length_cons,zn l]
structure ly(P:Program)(need:Nat)(ops:Array Oper)(pre:List DStep)(env:List ay)(c6:List Nat)(Γ:cN)(h:ab)(b_:Nat)(aX:lx)(H:Nat->ab):Prop where
 cur:H b_=h
 le:∀fR∈c6,fR<=b_
 st:∀z∈aX,z.2.2.2<=b_/\H z.2.2.2=z.2.2.1
 pl:pre.length=env.length
 seen:∀s∈pre,tT P need ops s env.length (ay.bH env) (cB Γ) c6 H
theorem ly.push{ops:Array Oper}{pre:List DStep}{env eu:List ay}{c6:List Nat}{Γ b3:cN}{h ao:ab}{b_ jR:Nat}{aX qi:lx}{H aI:Nat->ab}(w:ly P need ops pre env c6 Γ h b_ aX H){s:DStep}{v:ay}(ag:s.i=env.length)(ax:ay.bH eu=ay.bH env)(av:cB b3=cB Γ)(bq:eu.length=env.length)
  (cQ:∀k,k<=b_->aI k=H k)(aD:b_<=jR)(af:aI jR=ao)(hs:∀z∈qi,z.2.2.2<=jR/\aI z.2.2.2=z.2.2.1)
  (aL:kindOf P s.o.op=.pure->(∀x∈s.o.op.operands,(gb s.i (ay.bH env) (cB Γ) (cl P need s.loc x)).isSome=true)/\(mZ s.i (ay.bH env) (cB Γ) (il P need ops s.loc s.o) false\/(mZ s.i (ay.bH env) (cB Γ) (il P need ops s.loc s.o) true/\∃ki,cj P s.o (λx=>(gb s.i (ay.bH env) (cB Γ) (cl P need s.loc x)).getD .bad) h=.val v.den ki))):
  ly P need ops (pre++[s]) (v::eu) (b_::c6) b3 ao jR qi aI:=by
 refine⟨af,λfR kP=>?_,hs,by simp[w.pl,bq],λz aP=>?_⟩
 · rcases List.mem_cons.1 kP with rfl|kP
   · exact aD
   · exact Nat.le_trans (w.le fR kP) aD
 · rw[List.length_cons,bq,av]
   simp only[ay.bH,ax]
   rcases List.mem_append.1 aP with aP|aP
   · exact(w.seen z aP).more _ _ λfR kP=>cQ fR (w.le fR kP)
   · obtain rfl:z=s:=by simpa using aP
     refine⟨by omega,λan=>?_⟩
     obtain⟨bJ,bR⟩:=aL an
     rw[ag] at bJ bR
     refine⟨λx J=>?_,λu fR hu kP=>?_⟩
     · obtain⟨y,aO⟩:=Option.isSome_iff_exists.1 (bJ x J)
       rw[wk _ aO];rfl
     · have h0:env.length+1-1-z.i=0:=by omega
       rw[h0] at hu kP
       cases hu;cases kP
       rcases bR with bR|⟨pP,ki,bR⟩
       · exact .inl (bR.more _)
       · refine .inr ⟨pP.more _,ki,?_⟩
         rw[cQ b_ (Nat.le_refl _),w.cur,<-bR]
         exact vN _ _ λx J=>by
          obtain⟨y,aO⟩:=Option.isSome_iff_exists.1 (bJ x J)
          rw[wk _ aO,aO]
theorem wy{ops:Array Oper}{r:aN}{n:Nat}{env:List I}{s:DStep}:fN P need ops r n env s=(il P need ops s.loc s.o).map λx=>(c1 n env r x.1,x.2):=by
 unfold fN
 cases il P need ops s.loc s.o<;>rfl
def Ie:fW->Prop
 |.val _ _=>True
 |.bK _ _=>True
 |.fail _=>True
 |_=>False
theorem Qu{o:Oper}{g:Operand->I}{H:ab}(an:kindOf P o.op=.pure):Ie (cj P o g H):=by
 have fQ:∀(w:String) (x:Option I),Ie (eS H w x):=λw x=>by cases x<;>trivial
 obtain⟨dst,op,type,pos,after,guard⟩:=o
 cases op<;>simp only[kindOf] at an<;>(try (cases an;done))<;>unfold cj<;>simp only
 case binOp=>exact fQ _ _
 case slice=>exact fQ _ _
 case lookup=>exact fQ _ _
 case convert s d x=>
  have cF:∀e,P.underlying d≠some (.slice e):=λe he=>by rw[he] at an;cases an
  unfold e8
  repeat' (first|trivial|exact absurd (by assumption) (cF _)|split)
 case call c=>
  cases af:c.callee with
  |value f=>rw[af] at an;cases an
  |invoke r n=>rw[af] at an;cases an
  |builtin b=>
   rw[af] at an
   cases b<;>simp only at an<;>(try (cases an;done))<;>simp only[g5]<;>repeat' (first|trivial|exact fQ _ _|split)
 all_goals repeat' (first|trivial|exact fQ _ _|split)
theorem Qv{o:Oper}{g:Operand->I}{d d1:List bz}{q aV:bu}{h aa:ab}{v:I}(an:kindOf P o.op=.pure)(e:dc P inR call none o g d q h=.ok v d1 aV aa):∃ao,cj P o g h=.val v ao:=by
 have aD:=Qu (P:=P) (g:=g) (H:=h) an
 unfold dc at e
 simp only[dC] at e
 cases aQ:cj P o g h<;>rw[aQ] at e aD<;>first|(exact aD.elim)|(cases e;done)|(cases e;exact⟨_,rfl⟩)
theorem Qw{op:Op}{g:Operand->ay}{b:Nat}{K:ay->cX->cv}(h:(CZ P op g b K).p):∃s o,iO P op (λx=>(g x).den) b=some (ay.den s,o)/\(K s o).p:=by
 unfold CZ at h
 split at h
 · rename_i e x
   obtain⟨ax,av,k⟩:=CW (ay.kO h)
   exact⟨_,_,by simp only[iO,ax,av];rfl,k⟩
 · rename_i t l c
   split at h
   · obtain⟨z,aP,k⟩:=h
     exact⟨_,_,Hr (op:=.makeSlice t l c) (v:=ay.den (.v _)) aP,k⟩
   · cases h
 · rename_i t len parts
   split at h
   · obtain⟨e,sz,z,cs,hu,hs,aP,aa,hf,af,k⟩:=H7 h
     rw[H8] at hf
     exact⟨.v _,_,by simp only[iO,hu,hs,aP,aa,hf,af];rfl,k⟩
   · split at h
     · rename_i v o aD
       exact⟨.v v,o,aD,h⟩
     · cases h
 · split at h
   · rename_i v o aD
     exact⟨.v v,o,aD,h⟩
   · cases h
def oY(H:Nat->ab)(k:Nat)(h:ab)(j:Nat):ab:=if j=k then h else H j
def nY(P:Program)(need:Nat)(inR:Bool)(call:bt)(ops:Array Oper)(cm:Nat)(full l:List DStep)(env:List ay)(G:Env)(d:List bz)(q:bu)(h:ab)(aX:lx)(K:qg)(bA:I->qg):Prop:=
 (∃eu qj b3 aW a0 ao jR qi aI,(∀r,Mod r G->fg P need inR call ops r cm l (ay.bH env) d q h (hr aX)=.ok (ay.bH eu) aW a0 ao (hr qi))/\cB b3=G/\ly P need ops full eu qj b3 ao jR qi aI/\(K eu qj b3 aW a0 ao jR qi).p)\/
 ∃v eu qj b3 aW a0 ao jR e m h0 tU p4 aI wz,(∀r,Mod r G->fg P need inR call ops r cm l (ay.bH env) d q h (hr aX)=.bK v (ay.bH eu) aW a0 ao (hr ((e,m,h0,tU)::p4)))/\cB b3=G/\ly P need ops wz eu qj b3 h0 tU p4 aI/\(∃post,full=wz++post)/\(bA v eu qj b3 aW a0 ao jR ((e,m,h0,tU)::p4)).p
theorem nY.trans{ops:Array Oper}{cm:Nat}{full l cM:List DStep}{env m0:List ay}{G:Env}{d d2:List bz}{q ba:bu}{h ad:ab}{aX Ig:lx}{K:qg}{bA:I->qg}(an:∀r,Mod r G->fg P need inR call ops r cm l (ay.bH env) d q h (hr aX)=fg P need inR call ops r cm cM (ay.bH m0) d2 ba ad (hr Ig))(he:nY P need inR call ops cm full cM m0 G d2 ba ad Ig K bA):nY P need inR call ops cm full l env G d q h aX K bA:=by
 rcases he with⟨b8,cG,dw,gF,gf,m1,wA,wB,wC,bM,cU,gY,eO⟩|⟨b8,cG,dw,gF,gf,m1,wA,wB,wC,bn,cJ,dr,gG,qk,mf,bM,cU,gY,eO,nZ⟩
 · exact .inl ⟨b8,cG,dw,gF,gf,m1,wA,wB,wC,λr hm=>(an r hm).trans (bM r hm),cU,gY,eO⟩
 · exact .inr ⟨b8,cG,dw,gF,gf,m1,wA,wB,wC,bn,cJ,dr,gG,qk,mf,λr hm=>(an r hm).trans (bM r hm),cU,gY,eO,nZ⟩
theorem r6{ops:Array Oper}{r:aN}{cm:Nat}{s:DStep}{rest:List DStep}{env:List I}{d:List bz}{q:bu}{h:ab}{aX:l8}:fg P need inR call ops r cm (s::rest) env d q h aX=
  match kindOf P s.o.op with
  |.alloc=>match dC (fN P need ops r s.i env s) with
   |none=>.fail ("guard " ++s.o.pos)
   |some false=>fg P need inR call ops r cm rest (.aJ []::env) d q h aX
   |some true=>match iO P s.o.op (λx=>c1 s.i env r (cl P need s.loc x)) (cm+s.i) with
    |some (v,o)=>fg P need inR call ops r cm rest (v::env) d q (h.set (cm+s.i) (some o)) aX
    |none=>.fail ("alloc " ++s.o.pos)
  |.pure=>match dc P inR call (fN P need ops r s.i env s) s.o (λx=>c1 s.i env r (cl P need s.loc x)) d q h with
   |.ok v _ _ _=>fg P need inR call ops r cm rest (v::env) d q h aX
   |.bK _ _ _ _=>.fail ("pure " ++s.o.pos)
   |.fail w=>.fail w
  |.du=>match rI s aX with
   |false=>.fail ("order " ++s.o.pos)
   |true=>match dc P inR call (fN P need ops r s.i env s) s.o (λx=>c1 s.i env r (cl P need s.loc x)) d q h with
    |.ok v aW a0 ao=>fg P need inR call ops r cm rest (v::env) aW a0 ao ((s.i,s.ed,h)::aX)
    |.bK v aW a0 ao=>match rest.all (λa6=>Nat.testBit a6.ed s.i) with
     |true=>.bK v env aW a0 ao ((s.i,s.ed,h)::aX)
     |false=>.fail ("panic " ++s.o.pos)
    |.fail w=>.fail w:=by
 cases aX<;>rfl
theorem r7{pl:ju}{hq:Nat}{ops:Array Oper}{cm:Nat}{full:List DStep}(n0:∀(k:Nat) (s:DStep),full[k]? =some s->s.i=k){K:qg}{bA:I->qg}:∀(l pre:List DStep) (env:List ay) (c6:List Nat) (Γ:cN) (d:List bz) (q:bu) (h:ab) (b_:Nat) (aX:lx) (H:Nat->ab),full=pre++l->ly P need ops pre env c6 Γ h b_ aX H->(qh P need inR call pl hq ops cm l env c6 Γ d q h b_ aX K bA).p->nY P need inR call ops cm full l env (cB Γ) d q h aX K bA
 |[],pre,env,c6,Γ,d,q,h,b_,aX,H,hf,w,J=>by
  rw[List.append_nil] at hf
  subst hf
  exact .inl ⟨env,c6,Γ,d,q,h,b_,aX,H,λ_ _=>rfl,rfl,w,J⟩
 |s::rest,pre,env,c6,Γ,d,q,h,b_,aX,H,hf,w,J=>by
  have ag:s.i=env.length:=by
   rw[<-w.pl]
   exact n0 pre.length s (by rw[hf];simp)
  have tV:full=(pre++[s])++rest:=by rw[hf];simp
  simp only[qh] at J
  split at J
  · cases J
  · rename_i an
    have r8:=H_ an
    have aj:∀r,Mod r (cB Γ)->∀x∈s.o.op.operands,c1 s.i (ay.bH env) r (cl P need s.loc x)=(gb s.i (ay.bH env) (cB Γ) (cl P need s.loc x)).getD .bad:=λr hm=>C1 hm r8
    have hD:∀r,Mod r (cB Γ)->∀gd,dc P inR call gd s.o (λx=>c1 s.i (ay.bH env) r (cl P need s.loc x)) d q h=dc P inR call gd s.o (λx=>(gb s.i (ay.bH env) (cB Γ) (cl P need s.loc x)).getD .bad) d q h:=λr hm gd=>rC (aj r hm)
    obtain⟨me,fG,ax,av,bq,hw⟩:=Ia J
    have js:∀z∈aX,z.2.2.2<=b_/\H z.2.2.2=z.2.2.1:=w.st
    rcases hw with⟨hw,nX⟩|⟨hw,nX⟩
    · have ql:∀r,Mod r (cB Γ)->dC (fN P need ops r s.i (ay.bH env) s)=some true:=λr hm=>by rw[wy];exact nX.ok hm
      split at hw
      · rename_i f_
        obtain⟨v,o,aw,cZ⟩:=Qw hw
        have zo:iO P s.o.op (λx=>(gb s.i (ay.bH env) (cB Γ) (cl P need s.loc x)).getD .bad) (cm+s.i)=some (v.den,o):=by
         rw[<-aw];congr 1;exact funext λx=>by rw[C0,ax,av]
        have cA:ly P need ops (pre++[s]) (v::me) (b_::c6) fG (h.set (cm+s.i) (some o)) (b_+1) aX (oY H (b_+1) (h.set (cm+s.i) (some o))):=
         w.push ag ax av bq (λk an=>by unfold oY;rw[if_neg (by omega)]) (by omega) (by unfold oY;rw[if_pos rfl]) (λz aP=>by
          obtain⟨dk,eB⟩:=js z aP
          exact⟨by omega,by unfold oY;rw[if_neg (by omega)];exact eB⟩) (λaL=>by rw[f_] at aL;cases aL)
        have a3:=r7 n0 rest (pre++[s]) (v::me) (b_::c6) fG d q _ (b_+1) aX _ tV cA cZ
        rw[av] at a3
        refine nY.trans (λr hm=>?_) a3
        rw[r6,f_]
        simp only[ql r hm]
        rw[vO _ _ (aj r hm),zo]
        simp only[ay.bH,ax]
      · rename_i f_
        obtain⟨m0,hW,f1,f2,f3,aQ⟩:=C2 hw
        rw[ax,av] at aQ
        rcases aQ with⟨x,d1,aV,aa,he,cZ⟩|⟨v,d1,aV,aa,he,cZ⟩
        · have eD:=Qv f_ he
          have cA:ly P need ops (pre++[s]) (x::m0) (b_::c6) hW h b_ aX H:=
           w.push ag (f1.trans ax) (f2.trans av) (f3.trans bq) (λk an=>rfl) (Nat.le_refl _) w.cur js (λ_=>⟨r8,.inr ⟨nX,eD⟩⟩)
          have a3:=r7 n0 rest (pre++[s]) (x::m0) (b_::c6) hW d q h b_ aX H tV cA cZ
          rw[f2,av] at a3
          refine nY.trans (λr hm=>?_) a3
          rw[r6,f_]
          simp only
          rw[hD r hm,tD (ql r hm),he]
          simp only[ay.bH,f1,ax]
        · cases cZ
      · rename_i f_
        split at hw
        · cases hw
        · rename_i j9
          obtain⟨m0,hW,f1,f2,f3,aQ⟩:=C2 hw
          rw[ax,av] at aQ
          rcases aQ with⟨x,d1,aV,aa,he,cZ⟩|⟨v,d1,aV,aa,he,cZ⟩
          · have cA:ly P need ops (pre++[s]) (x::m0) (b_::c6) hW aa (b_+1) ((s.i,s.ed,h,b_)::aX) (oY H (b_+1) aa):=
              w.push ag (f1.trans ax) (f2.trans av) (f3.trans bq) (λk an=>by unfold oY;rw[if_neg (by omega)]) (by omega) (by unfold oY;rw[if_pos rfl]) (λz aP=>by
               rcases List.mem_cons.1 aP with rfl|aP
               · exact⟨by simp,by unfold oY;rw[if_neg (by simp)];exact w.cur⟩
               · obtain⟨dk,eB⟩:=js z aP
                 exact⟨by omega,by unfold oY;rw[if_neg (by omega)];exact eB⟩) (λaL=>by rw[f_] at aL;cases aL)
            have a3:=r7 n0 rest (pre++[s]) (x::m0) (b_::c6) hW d1 aV aa (b_+1) _ _ tV cA cZ
            rw[f2,av] at a3
            refine nY.trans (λr hm=>?_) a3
            rw[r6,f_]
            simp only[j9]
            rw[hD r hm,tD (ql r hm),he]
            simp only[ay.bH,f1,ax,hr]
          · split at cZ
            · rename_i dx
              refine .inr ⟨v,me,c6,hW,d1,aV,aa,b_+1,s.i,s.ed,h,b_,aX,H,pre,λr hm=>?_,f2.trans av,?_,⟨_,hf⟩,cZ⟩
              · rw[r6,f_]
                simp only[j9]
                rw[hD r hm,tD (ql r hm),he]
                simp only[dx,hr,ax]
              · exact⟨w.cur,w.le,w.st,w.pl.trans bq.symm,by rw[f2,av,ax,bq];exact w.seen⟩
            · cases cZ
    · have ql:∀r,Mod r (cB Γ)->dC (fN P need ops r s.i (ay.bH env) s)=some false:=λr hm=>by rw[wy];exact nX.ok hm
      cases f_:kindOf P s.o.op with
      |du=>
       rw[f_] at hw
       simp only at hw
       split at hw
       · cases hw
       · rename_i j9
         have cA:ly P need ops (pre++[s]) (.v (.aJ [])::me) (b_::c6) fG h b_ ((s.i,s.ed,h,b_)::aX) H:=
          w.push ag ax av bq (λk an=>rfl) (Nat.le_refl _) w.cur (λz aP=>by
           rcases List.mem_cons.1 aP with rfl|aP
           · exact⟨Nat.le_refl _,w.cur⟩
           · exact js z aP) (λaL=>by rw[f_] at aL;cases aL)
         have a3:=r7 n0 rest (pre++[s]) (.v (.aJ [])::me) (b_::c6) fG d q h b_ _ H tV cA hw
         rw[av] at a3
         refine nY.trans (λr hm=>?_) a3
         rw[r6,f_]
         simp only[j9]
         rw[v8 (ql r hm)]
         simp only[ay.bH,ay.den,ax,hr]
      |alloc=>
       rw[f_] at hw
       simp only at hw
       have cA:ly P need ops (pre++[s]) (.v (.aJ [])::me) (b_::c6) fG h b_ aX H:=
        w.push ag ax av bq (λk an=>rfl) (Nat.le_refl _) w.cur js (λaL=>by rw[f_] at aL;cases aL)
       have a3:=r7 n0 rest (pre++[s]) (.v (.aJ [])::me) (b_::c6) fG d q h b_ aX H tV cA hw
       rw[av] at a3
       refine nY.trans (λr hm=>?_) a3
       rw[r6,f_]
       simp only[ql r hm]
       simp only[ay.bH,ay.den,ax]
      |pure=>
       rw[f_] at hw
       simp only at hw
       have cA:ly P need ops (pre++[s]) (.v (.aJ [])::me) (b_::c6) fG h b_ aX H:=
        w.push ag ax av bq (λk an=>rfl) (Nat.le_refl _) w.cur js (λ_=>⟨r8,.inl nX⟩)
       have a3:=r7 n0 rest (pre++[s]) (.v (.aJ [])::me) (b_::c6) fG d q h b_ aX H tV cA hw
       rw[av] at a3
       refine nY.trans (λr hm=>?_) a3
       rw[r6,f_]
       simp only
       rw[v8 (ql r hm)]
       simp only[ay.bH,ay.den,ax]
end
section
variable {P:Program} {need:Nat} {inR:Bool} {call:bt}
theorem Qx{o:Oper}{g:Operand->ay}(ar:zm P o g=true){h aa:ab}{v:I}(e:cj P o (λx=>(g x).den) h=.val v aa)(ao:ab):∃ad,cj P o (λx=>(g x).den) ao=.val v ad:=by
 have fQ:∀{w:String} {x:Option I},eS h w x=.val v aa->∃ad,eS ao w x=.val v ad:=λ{w x} e=>by
  cases x with
  |none=>cases e
  |some y=>cases e;exact⟨_,rfl⟩
 obtain⟨dst,op,type,pos,after,guard⟩:=o
 cases op<;>simp only[zm] at ar<;>(try (cases ar;done))<;>unfold cj at e⊢ <;>simp only at e⊢
 case binOp op t x y yt=>
  split at ar
  · rename_i k a dA b J aO
    rw[J,aO] at e⊢
    simp only[ay.den,e1] at e⊢
    exact fQ e
  · rename_i a b J aO
    rw[J,aO] at e⊢
    simp only[ay.den,e1] at e⊢
    exact fQ e
  · rw[Bool.and_eq_true] at ar
    rw[ay.nW ar.1,ay.nW ar.2] at e⊢
    have ah:e1 P ao op t x y (.bool (g x).jt) (.bool (g y).jt)=e1 P h op t x y (.bool (g x).jt) (.bool (g y).jt):=by
     simp only[e1,e0]
    rw[ah];exact fQ e
 case call c=>
  split at ar
  · rename_i af
    rw[af] at e⊢
    simp only[g5] at e⊢
    split at ar
    · rename_i t bm
      rw[bm] at e⊢
      cases gD:c.args.toList.map λx=>(g x).den with
      |nil=>rw[gD] at e;cases e
      |cons x l=>
       rw[gD] at e
       cases l with
       |nil=>
        simp only at e⊢
        split at ar
        · rename_i el hu
          simp only[cr,hu] at e⊢
          cases x<;>simp only at e⊢ <;>exact fQ e
        · rename_i hu
          simp only[cr,hu] at e⊢
          cases x<;>simp only at e⊢ <;>exact fQ e
        · cases ar
       |cons y l=>
        cases l with
        |nil=>simp only at e;cases e
        |cons z l=>simp only at e;cases e
    · cases ar
  · cases ar
 case typeAssert=>repeat' (first|contradiction|exact fQ e|(cases e;done)|(cases e;exact⟨_,rfl⟩)|(cases e;simp_all;done)|split at e)
 all_goals repeat' (first|contradiction|exact fQ e|(cases e;exact⟨_,rfl⟩)|(rw[if_pos (by assumption)];first|exact fQ e|(cases e;exact⟨_,rfl⟩))|(cases e;done)|split at e)
theorem Ih{K:cv}:∀(l:List ay),(tQ l K).p->iv (ay.bH l)=true/\K.p
 |[],h=>⟨rfl,h⟩
 |s::l,h=>by
  have key:s.den.sound=true/\(tQ l K).p:=by
   cases s<;>simp only[tQ] at h<;>first|exact h|(split at h<;>first|exact⟨by assumption,h⟩|cases h)
  obtain⟨bJ,bR⟩:=Ih l key.2
  exact⟨by simp only[ay.bH,iv,key.1,bJ,Bool.and_true],bR⟩
theorem Ii{s:ay}{K:cv}(h:(CY s K).p):s.den.sound=true/\K.p:=by
 cases s<;>simp only[CY] at h<;>first|exact⟨rfl,h⟩|exact h|skip
 all_goals first
  |exact Ih _ h
  |(split at h
    · rename_i hs;exact⟨hs,h⟩
    · cases h)
theorem wD{o:Oper}{g:Operand->I}{v:I}{qf:Bool}{K:cv}:∀(l:List (Option ab)),(tS P o g v qf l K).p->K.p/\(qf=false->∀h,some h∈l->mU P o g h v)
 |[],h=>⟨h,λ_ _ hm=>by cases hm⟩
 |none::l,h=>by
  obtain⟨aa,ad⟩:=wD l h
  exact⟨aa,λaH ao hm=>by
   rcases List.mem_cons.1 hm with e|hm
   · cases e
   · exact ad aH ao hm⟩
 |some x::l,h=>by
  simp only[tS] at h
  cases qf with
  |true=>
   obtain⟨aa,ad⟩:=wD l h
   exact⟨aa,λaH=>by cases aH⟩
  |false=>
   obtain⟨h0,h⟩:=h
   obtain⟨aa,ad⟩:=wD l h
   exact⟨aa,λaH ao hm=>by
    rcases List.mem_cons.1 hm with e|hm
    · cases e;exact h0
    · exact ad aH ao hm⟩
theorem Ij{ops:Array Oper}{r:aN}{n:Nat}{env:List I}{s:DStep}{v:I}{fR:Nat}{H:Nat->ab}:∀(aX:lx) (df:Option Nat) (h:ab) (b_:Nat),H b_=h->(∀z∈aX,H z.2.2.2=z.2.2.1)->(∀o∈tR s fR df h b_ aX,kA P need ops r n env s v (match o with|none=>H fR|some h=>h)=true)->jB P need ops r n env s v df h (hr aX)=true
 |[],df,h,b_,ah,hs,ar=>by
  simp only[hr]
  rw[y2]
  simp only[tR] at ar
  cases ae:oS s df [] with
  |true=>rfl
  |false=>
   rw[show oS s df (hr [])=false from ae] at ar
   simp only[Bool.and_true]
   cases aD:Nat.beq b_ fR with
   |true=>
    have:=ar none (by rw[aD];simp)
    obtain rfl:=Nat.eq_of_beq_eq_true aD
    rw[<-ah];exact this
   |false=>exact ar (some h) (by rw[aD];simp)
 |(e,m,ao,jR)::rest,df,h,b_,ah,hs,ar=>by
  simp only[hr]
  rw[y2]
  simp only[tR] at ar
  have a3:=Ij (ops:=ops) (r:=r) (n:=n) (env:=env) (v:=v) rest (some e) ao jR (hs _ List.mem_cons_self) (λz aP=>hs z (List.mem_cons_of_mem _ aP)) λo aQ=>ar o (List.mem_append.2 (.inr aQ))
  simp only[]
  rw[a3,Bool.and_true]
  cases ae:oS s df ((e,m,ao)::hr rest) with
  |true=>rfl
  |false=>
   rw[show oS s df (hr ((e,m,ao,jR)::rest))=false from ae] at ar
   simp only
   cases aD:Nat.beq b_ fR with
   |true=>
    have:=ar none (List.mem_append.2 (.inl (by rw[aD];simp)))
    obtain rfl:=Nat.eq_of_beq_eq_true aD
    rw[<-ah];exact this
   |false=>exact ar (some h) (List.mem_append.2 (.inl (by rw[aD];simp)))
theorem C7{ops:Array Oper}{r:aN}{n:Nat}{env:List ay}{c6:List Nat}{Γ:cN}(hm:Mod r (cB Γ)){last:Option Nat}{h:ab}{b_:Nat}{aX:lx}{H:Nat->ab}(cQ:H b_=h)(bY:∀z∈aX,H z.2.2.2=z.2.2.1){K:cv}:∀(l:List DStep),(∀s∈l,s.i<n->tT P need ops s n (ay.bH env) (cB Γ) c6 H)->(kh P need ops n env c6 Γ last h b_ aX l K).p->j3 P need ops r n (ay.bH env) last h (hr aX) l=true
 |[],_,_=>rfl
 |s::rest,hs,J=>by
  simp only[j3]
  simp only[kh] at J
  have xO:=λ(k:(kh P need ops n env c6 Γ last h b_ aX rest K).p)=>C7 hm cQ bY rest (λz aP=>hs z (List.mem_cons_of_mem _ aP)) k
  split at J
  · rename_i ae f_
    have ag:s.i<n:=by simpa using ae
    obtain⟨_,qm⟩:=hs s List.mem_cons_self ag
    obtain⟨r8,j7⟩:=qm f_
    rw[ae,f_]
    simp only
    split at J
    · rename_i v fR aD kP
      have Ik:nth (n-1-s.i) (ay.bH env)=some v.den:=HZ _ _ _ aD
      rw[Ik]
      simp only[Option.getD_some]
      have fin:∀(an:(kh P need ops n env c6 Γ last h b_ aX rest K).p),(∀o∈tR s fR last h b_ aX,kA P need ops r n (ay.bH env) s v.den (match o with|none=>H fR|some h=>h)=true)->(jB P need ops r n (ay.bH env) s v.den last h (hr aX)&&j3 P need ops r n (ay.bH env) last h (hr aX) rest)=true:=λan aQ=>by
       rw[xO an,Bool.and_true]
       exact Ij aX last h b_ cQ bY aQ
      split at J
      · rename_i oK
        exact fin J λo aQ=>by rw[oK] at aQ;cases aQ
      · split at J
        ·
         have C8:dC (fN P need ops r n (ay.bH env) s)=some false->∀ao,kA P need ops r n (ay.bH env) s (ay.den (.v (.aJ []))) ao=true:=λhw ao=>by
          unfold kA;rw[hw]
         split at J
         · rename_i a b wo
           have ak:∀(x:ay),kM n env Γ a=some x->fN P need ops r n (ay.bH env) s=some (x.den,b):=λx J=>by
            have h8:gb n (ay.bH env) (cB Γ) a=some x.den:=by rw[<-tL,J];rfl
            rw[wy,wo]
            simp only[Option.map_some,tM hm h8]
           split at J
           · rename_i rE
             exact fin J λo _=>C8 (by rw[ak _ rE];rfl) _
           · rename_i rE
             cases b with
             |false=>exact fin J λo _=>C8 (by rw[ak _ rE];rfl) _
             |true=>cases J
           · rename_i rE
             cases b with
             |true=>exact fin J λo _=>C8 (by rw[ak _ rE];rfl) _
             |false=>cases J
           · cases J
         · cases J
        · rename_i cF
          obtain⟨dY,J⟩:=Ii J
          obtain⟨J,Qy⟩:=wD _ J
          have fp:(λx=>(jQ P need n env Γ s.loc x).den)=λx=>(gb n (ay.bH env) (cB Γ) (cl P need s.loc x)).getD .bad:=funext λx=>C0
          refine fin J λo aQ=>?_
          rcases j7 v.den fR Ik kP with e|⟨da,e⟩
          · have hw:dC (fN P need ops r n (ay.bH env) s)=some false:=by rw[wy];exact e.ok hm
            unfold kA;rw[hw]
          · have hw:dC (fN P need ops r n (ay.bH env) s)=some true:=by rw[wy];exact da.ok hm
            have look:∀ao,(∃ki,cj P s.o (λx=>(jQ P need n env Γ s.loc x).den) ao=.val v.den ki)->kA P need ops r n (ay.bH env) s v.den ao=true:=λao ⟨ki,e⟩=>by
             have Qz:cj P s.o (λx=>c1 n (ay.bH env) r (cl P need s.loc x)) ao=.val v.den ki:=by
              rw[<-e,fp]
              exact vN s.o ao (C1 hm r8)
             unfold kA
             simp only[hw,Qz]
             exact rM _ dY
            rw[<-fp] at e
            cases o with
            |none=>exact look _ e
            |some ao=>
             refine look ao ?_
             cases ah:zm P s.o (jQ P need n env Γ s.loc) with
             |true=>
              obtain⟨aa,e⟩:=e
              exact Qx ah e ao
             |false=>exact⟨ao,rL (Qy ah ao aQ)⟩
    · cases J
  · rename_i mS
    have J:=xO J
    rw[J,Bool.and_true]
    cases ae:Nat.blt s.i n with
    |false=>rfl
    |true=>
     cases an:kindOf P s.o.op with
     |pure=>exact absurd an (mS ae)
     |alloc=>rfl
     |du=>rfl
theorem C9{ops:Array Oper}{n:Nat}{env:List ay}{c6:List Nat}{Γ:cN}{last:Option Nat}{h:ab}{b_:Nat}{aX:lx}{K:cv}:∀(l:List DStep),(kh P need ops n env c6 Γ last h b_ aX l K).p->K.p
 |[],J=>J
 |s::rest,J=>by
  have a3:(kh P need ops n env c6 Γ last h b_ aX rest K).p->K.p:=λk=>C9 rest k
  simp only[kh] at J
  split at J
  · split at J
    · split at J
      · exact a3 J
      · split at J
        · split at J
          · split at J
            · exact a3 J
            · split at J
              · exact a3 J
              · cases J
            · split at J
              · exact a3 J
              · cases J
            · cases J
          · cases J
        · exact a3 (wD _ (Ii J).2).1
    · cases J
  · exact a3 J
def Il(P:Program)(need:Nat)(inR:Bool)(call:bt)(pl:ju)(hq:Nat)(ops:Array Oper)(Γ:cN)(d:List bz)(q:bu)(h:ab)(K:bk->cN->List bz->bu->ab->cv):cv:=
 qh P need inR call pl hq ops h.n (ei ops.toList 0 [] []) [] [] Γ d q (h.room ops.size) 0 []
  (λenv c6 Γ d q h b_ aX=>kh P need ops env.length env c6 Γ none h b_ aX (ei ops.toList 0 [] []) (mc (r5 need env.length env Γ (hQ ops.toList 0 []) Γ) λΓ=>K .nrm Γ d q h))
  (λv env c6 Γ d q h b_ aX=>match aX with
   |(e,m,h0,tU)::aX=>kh P need ops env.length env c6 Γ (some e) h0 tU aX (ei ops.toList 0 [] []) (mc (wv (hQ ops.toList 0 []) Γ) λΓ=>K (.bK v) Γ d q h)
   |[]=>bad "a panic")
def C_(P:Program)(need:Nat)(rd:Option Nat)(call:bt)(c:Code)(Γ:cN)(d:List bz)(q:bu)(h:ab)(K:bk->cN->List bz->bu->ab->cv):Prop:=∃e b3 aW a0 ao,dT P need rd call c ⟨cB Γ,d,q,h⟩ e ⟨cB b3,aW,a0,ao⟩/\(K e b3 aW a0 ao).p
theorem QA{rd:Option Nat}{pl:ju}{hq:Nat}{ops:Array Oper}{Γ:cN}{d:List bz}{q:bu}{h:ab}{K:bk->cN->List bz->bu->ab->cv}(J:(Il P need rd.isSome call pl hq ops Γ d q h K).p):C_ P need rd call (.region hq ops true) Γ d q h K:=by
 have n0:∀(k:Nat) (s:DStep),(ei ops.toList 0 [] [])[k]? =some s->s.i=k:=λk s hs=>by have:=Ib _ _ _ _ _ _ hs;omega
 have fO:ly P need ops [] [] [] Γ (h.room ops.size) 0 [] (λ_=>h.room ops.size):=⟨rfl,λ_ hm=>(by cases hm),λ_ hm=>(by cases hm),rfl,λ_ hm=>(by cases hm)⟩
 rcases r7 n0 (ei ops.toList 0 [] []) [] [] [] Γ d q (h.room ops.size) 0 [] _ rfl fO J with⟨eu,qj,b3,aW,a0,ao,jR,qi,aI,bM,cU,w,cZ⟩|⟨v,eu,qj,b3,aW,a0,ao,jR,e,m,h0,tU,p4,aI,wz,bM,cU,w,⟨post,aL⟩,cZ⟩
 · refine⟨.nrm,_,aW,a0,ao,λr hm=>?_,mY (C9 _ cZ)⟩
   have aa:=bM r hm
   have ad:=C7 (r:=r) (by rw[cU];exact hm) w.cur (λz aP=>(w.st z aP).2) _ (λs hs _=>w.seen s hs) cZ
   refine⟨_,?_,C5 (by rw[cU];exact hm) _ _ _ (by rw[cU];exact hm)⟩
   have hF:fg P need rd.isSome call ops r h.n (ei ops.toList 0 [] []) [] d q ⟨h.t,h.n+ops.size⟩ []=.ok (ay.bH eu) aW a0 ao (hr qi):=aa
   simp only[c2,qU,hF,zn,ad,k4]
 · refine⟨.bK v,_,aW,a0,ao,λr hm=>?_,mY (C9 _ cZ)⟩
   have aa:=bM r hm
   have QB:∀s∈ei ops.toList 0 [] [],s.i<eu.length->tT P need ops s eu.length (ay.bH eu) (cB b3) qj aI:=λs hs ag=>by
    refine w.seen s ?_
    obtain⟨k,an,tn⟩:=List.getElem_of_mem hs
    have Yl:s.i=k:=n0 k s (by rw[List.getElem?_eq_getElem an,tn])
    have QC:k<wz.length:=by rw[w.pl];omega
    have:(wz++post)[k]? =some s:=by rw[<-aL,List.getElem?_eq_getElem an,tn]
    rw[List.getElem?_append_left QC] at this
    exact List.mem_of_getElem? this
   have ad:=C7 (r:=r) (by rw[cU];exact hm) w.cur (λz aP=>(w.st z aP).2) _ QB cZ
   refine⟨_,?_,C6 _ _ _ (by rw[cU];exact hm)⟩
   have hF:fg P need rd.isSome call ops r h.n (ei ops.toList 0 [] []) [] d q ⟨h.t,h.n+ops.size⟩ []=.bK v (ay.bH eu) aW a0 ao ((e,m,h0)::hr p4):=aa
   simp only[c2,qU,hF,zn,ad,k4]
end
abbrev r9:=bk->cN->List bz->bu->ab->cv
def zp(P:Program):List (Nat×iZ)->(cN->cv)->cv
 |[],K=>K []
 |(t,s)::l,K=>shape P 9 s λx=>zp P l λΓ=>K ((t,x)::Γ)
def Da(P:Program)(d:List bz)(q:bu)(K:r9)(ca:bk)(ck:au):List (bk×List (Nat×iZ))->cv
 |[]=>bad "loop"
 |[(e,rs)]=>zp P rs λfs=>fC λg:ab=>fC λb3:Env=>fc (ca=e) (fc (ck=⟨b3,d,q,g⟩) (fc (cd (cB fs) b3) (K e fs d q g)))
 |(e,rs)::l=>.mk ((zp P rs λfs=>fC λg:ab=>fC λb3:Env=>fc (ca=e) (fc (ck=⟨b3,d,q,g⟩) (fc (cd (cB fs) b3) (K e fs d q g)))).p\/(Da P d q K ca ck l).p)
def QD:Operand->Nat
 |.tmp t=>t
 |_=>999
def zq(P:Program)(call:bt)(fn:Func)(pl:ju)(e3:Nat)(path:List Nat)(Γ:cN)(d:List bz)(q:bu)(h:ab)(K:r9):cv:=match rU (4000+e3) pl with
 |some (.hH ins outs)=>.mk (a4 P fn call path ⟨lk (cB Γ) ins,d,q,h⟩ λca ck=>(Da P d q K ca ck outs).p)
 |_=>bad "loop"
def lz(P:Program)(call:bt)(fn:Func)(need:Nat)(pl:ju):Code->Nat->List Nat->cN->List bz->bu->ab->r9->cv
 |.skip,_,_,Γ,d,q,h,K=>K .nrm Γ d q h
 |.label _,_,_,Γ,d,q,h,K=>K .nrm Γ d q h
 |.exit id,_,_,Γ,d,q,h,K=>K (.exit id) Γ d q h
 |.ret,_,_,Γ,d,q,h,K=>K .ret Γ d q h
 |.scope b,e3,p,Γ,d,q,h,K=>lz P call fn need pl b e3 (p++[0]) Γ d q h K
 |.region id ops draw,_,_,Γ,d,q,h,K=>match draw with
  |false=>wu P need false call pl id (nv P need ops).steps [] Γ d q h
   (λenv Γ d q h=>mc (r5 need env.length env Γ (nv P need ops).loc Γ) λΓ=>K .nrm Γ d q h)
   (λv Γ d q h=>mc (wv (nv P need ops).loc Γ) λΓ=>K (.bK v) Γ d q h)
  |true=>Il P need false call pl id ops Γ d q h K
 |.seq a b,e3,p,Γ,d,q,h,K=>lz P call fn need pl a e3 (p++[0]) Γ d q h λe Γ d q h=>match e with
  |.nrm=>lz P call fn need pl b e3 (p++[1]) Γ d q h K
  |e=>K e Γ d q h
 |.cond c a b,e3,p,Γ,d,q,h,K=>match kM 0 [] Γ (cl P need [] c) with
  |none=>bad "if"
  |some s=>s.gX (zg (rU (1000+QD c) pl)) (mc (rT (cl P need [] c) .iK Γ) λΓ=>lz P call fn need pl a e3 (p++[0]) Γ d q h K) (mc (rT (cl P need [] c) .iL Γ) λΓ=>lz P call fn need pl b e3 (p++[1]) Γ d q h K)
 |.block id b,_,p,Γ,d,q,h,K=>lz P call fn need pl b id (p++[0]) Γ d q h λe Γ d q h=>match e with
  |.exit i=>match Nat.beq i id with
   |true=>K .nrm Γ d q h
   |false=>K (.exit i) Γ d q h
  |e=>K e Γ d q h
 |.loop _,e3,p,Γ,d,q,h,K=>zq P call fn pl e3 p Γ d q h K
 |.rangeFunc _ _ _ _,e3,p,Γ,d,q,h,K=>zq P call fn pl (500+e3) p Γ d q h K
 |_,_,_,_,_,_,_,_=>bad "code"
section
variable {P:Program} {call:bt} {fn:Func}
theorem Db:∀(l:List (Nat×iZ)) {K:cN->cv},(zp P l K).p->∃Γ,(K Γ).p
 |[],K,h=>⟨[],h⟩
 |(t,s)::l,K,h=>by
  obtain⟨x,h⟩:=r0 h
  obtain⟨Γ,h⟩:=Db l h
  exact⟨_,h⟩
theorem Im{d:List bz}{q:bu}{K:r9}{ca:bk}{ck:au}:∀(l:List (bk×List (Nat×iZ))),(Da P d q K ca ck l).p->∃fs b3 g,ck=⟨b3,d,q,g⟩/\cd (cB fs) b3/\(K ca fs d q g).p
 |[],h=>by cases h
 |[(e,rs)],h=>by
  obtain⟨fs,g,b3,rfl,ad,aq,aC⟩:=Db _ h
  exact⟨fs,b3,g,ad,aq,aC⟩
 |(e,rs)::y::l,h=>by
  rcases h with h|h
  · obtain⟨fs,g,b3,rfl,ad,aq,aC⟩:=Db _ h
    exact⟨fs,b3,g,ad,aq,aC⟩
  · exact Im (y::l) h
theorem zr(Γ:Env):∀l:List Nat,cd (lk Γ l) Γ
 |[]=>trivial
 |t::l=>by
  simp only[lk]
  cases h:dp t Γ with
  |none=>exact zr Γ l
  |some v=>exact⟨h,zr Γ l⟩
theorem Io{pl:ju}{e3:Nat}{p:List Nat}{Γ:cN}{d:List bz}{q:bu}{h:ab}{K:r9}(J:(zq P call fn pl e3 p Γ d q h K).p):C_ P (c8 fn) none call (sub (en fn) p) Γ d q h K:=by
 unfold zq at J
 split at J
 · obtain⟨e,st,ai,aE⟩:=J
   obtain⟨fs,b3,g,rfl,aq,aC⟩:=Im _ aE
   have aa:dT P (c8 fn) none call (sub (en fn) p) ⟨cB Γ,d,q,h⟩ e ⟨b3,d,q,g⟩:=dT.pre (st1:=⟨cB Γ,d,q,h⟩) ai (zr _ _) rfl rfl rfl
   exact⟨e,fs,d,q,g,dT.post aa aq,aC⟩
 · cases J
theorem qn{pl:ju}:∀(c:Code) (e3:Nat) (p:List Nat) (Γ:cN) (d:List bz) (q:bu) (h:ab) (K:r9),sub (en fn) p=c->(lz P call fn (c8 fn) pl c e3 p Γ d q h K).p->C_ P (c8 fn) none call c Γ d q h K
 |.skip,e3,p,Γ,d,q,h,K,af,J=>⟨.nrm,Γ,d,q,h,λr ai=>⟨r,rfl,ai⟩,J⟩
 |.label _,e3,p,Γ,d,q,h,K,af,J=>⟨.nrm,Γ,d,q,h,λr ai=>⟨r,rfl,ai⟩,J⟩
 |.exit id,e3,p,Γ,d,q,h,K,af,J=>⟨.exit id,Γ,d,q,h,λr ai=>⟨r,rfl,ai⟩,J⟩
 |.ret,e3,p,Γ,d,q,h,K,af,J=>⟨.ret,Γ,d,q,h,λr ai=>⟨r,rfl,ai⟩,J⟩
 |.scope b,e3,p,Γ,d,q,h,K,af,J=>qn b e3 (p++[0]) Γ d q h K (by rw[h_,af];simp[sub]) J
 |.region id ops draw,e3,p,Γ,d,q,h,K,af,J=>by
  simp only[lz] at J
  cases draw with
  |true=>exact QA J
  |false=>
   rcases C4 _ _ _ _ _ _ J with⟨eu,b3,aW,a0,ao,bM,cU,cZ⟩|⟨v,b3,aW,a0,ao,bM,cU,cZ⟩
   · refine⟨.nrm,_,aW,a0,ao,λr ai=>⟨_,?_,C5 (by rw[cU];exact ai) _ _ _ (by rw[cU];exact ai)⟩,mY cZ⟩
     have aa:hh P (c8 fn) false call r (nv P (c8 fn) ops).steps [] d q h=.ok (ay.bH eu) aW a0 ao:=bM r ai
     simp only[c2,Option.isSome_none,aa,k4,zn]
   · refine⟨.bK v,_,aW,a0,ao,λr ai=>⟨_,?_,C6 _ _ _ (by rw[cU];exact ai)⟩,mY cZ⟩
     have aa:hh P (c8 fn) false call r (nv P (c8 fn) ops).steps [] d q h=.bK v aW a0 ao:=bM r ai
     simp only[c2,Option.isSome_none,aa,k4]
 |.seq a b,e3,p,Γ,d,q,h,K,af,J=>by
  obtain⟨e,fG,d1,aV,aa,r1,bJ⟩:=qn a e3 (p++[0]) Γ d q h _ (by rw[h_,af];simp[sub]) J
  by_cases he:e=.nrm
  · subst he
    obtain⟨av,hW,d2,ba,ad,r2,bR⟩:=qn b e3 (p++[1]) fG d1 aV aa K (by rw[h_,af];simp[sub]) bJ
    refine⟨av,hW,d2,ba,ad,λr ai=>?_,bR⟩
    obtain⟨lA,gi,lB⟩:=r1 r ai
    obtain⟨zs,mg,QE⟩:=r2 lA lB
    exact⟨zs,by simp only at gi mg;simp only[c2,gi,om,mg],QE⟩
  · refine⟨e,fG,d1,aV,aa,λr ai=>?_,by cases e<;>first|exact absurd rfl he|exact bJ⟩
    obtain⟨lA,gi,lB⟩:=r1 r ai
    exact⟨lA,by simp only[c2,gi];exact rp he,lB⟩
 |.cond c a b,e3,p,Γ,d,q,h,K,af,J=>by
  simp only[lz] at J
  split at J
  · cases J
  · rename_i s hs
    have h8:gb 0 [] (cB Γ) (cl P (c8 fn) [] c)=some s.den:=by rw[show([]:List I)=ay.bH [] from rfl,<-tL,hs];rfl
    obtain⟨ae,aO⟩:=zj _ J
    have ak:=ay.nW ae
    rcases aO with⟨bm,an⟩|⟨bm,an⟩
    · rw[bm] at ak
      obtain⟨_,av,_⟩:=tN (x:=.iK) hs ak
      obtain⟨e,fG,d1,aV,aa,r1,bJ⟩:=qn a e3 (p++[0]) _ d q h K (by rw[h_,af];simp[sub]) (mY an)
      refine⟨e,fG,d1,aV,aa,λr ai=>?_,bJ⟩
      obtain⟨lA,gi,lB⟩:=r1 r (by rw[av];exact ai)
      exact⟨lA,by simp only at gi;simp only[c2,tM ai h8,ak,gi],lB⟩
    · rw[bm] at ak
      obtain⟨_,av,_⟩:=tN (x:=.iL) hs ak
      obtain⟨e,fG,d1,aV,aa,r1,bJ⟩:=qn b e3 (p++[1]) _ d q h K (by rw[h_,af];simp[sub]) (mY an)
      refine⟨e,fG,d1,aV,aa,λr ai=>?_,bJ⟩
      obtain⟨lA,gi,lB⟩:=r1 r (by rw[av];exact ai)
      exact⟨lA,by simp only at gi;simp only[c2,tM ai h8,ak,gi],lB⟩
 |.block id b,e3,p,Γ,d,q,h,K,af,J=>by
  obtain⟨e,fG,d1,aV,aa,r1,bJ⟩:=qn b id (p++[0]) Γ d q h _ (by rw[h_,af];simp[sub]) J
  cases e with
  |exit i=>
   simp only at bJ
   cases ag:Nat.beq i id with
   |true=>
    rw[ag] at bJ
    obtain rfl:=Nat.eq_of_beq_eq_true ag
    exact⟨.nrm,fG,d1,aV,aa,λr ai=>by
     obtain⟨lA,gi,lB⟩:=r1 r ai
     exact⟨lA,by simp only at gi;simp only[c2,gi,if_true],lB⟩,bJ⟩
   |false=>
    rw[ag] at bJ
    have cF:¬i=id:=by intro cn;subst cn;simp at ag
    exact⟨.exit i,fG,d1,aV,aa,λr ai=>by
     obtain⟨lA,gi,lB⟩:=r1 r ai
     exact⟨lA,by simp only at gi;simp only[c2,gi,if_neg cF],lB⟩,bJ⟩
  |_=>
   exact⟨_,fG,d1,aV,aa,λr ai=>by
    obtain⟨lA,gi,lB⟩:=r1 r ai
    exact⟨lA,by simp only at gi;simp only[c2,gi],lB⟩,bJ⟩
 |.loop b,e3,p,Γ,d,q,h,K,af,J=>by
  have:=Io J;rw[af] at this;exact this
 |.rangeFunc f ps as bV,e3,p,Γ,d,q,h,K,af,J=>by
  have:=Io J;rw[af] at this;exact this
 |.goto _,e3,p,Γ,d,q,h,K,af,J=>by simp only[lz] at J;cases J
 |.refuse _,e3,p,Γ,d,q,h,K,af,J=>by simp only[lz] at J;cases J
def Ip(P:Program)(fn:Func)(call:bt)(pl:ju)(cL:List Nat)(path:List Nat)(Γ:cN)(d:List bz)(q:bu)(h:ab)(Q:bk->au->Prop):Prop:=
 (lz P call fn (c8 fn) pl (sub (en fn) path) 0 path Γ d q h λe Γ d q h=>.mk (Q e ⟨lk (cB Γ) cL,d,q,h⟩)).p
theorem dZ(pl:ju)(cL:List Nat)(Γ:cN){b3:Env}{path:List Nat}{d:List bz}{q:bu}{h:ab}{Q:bk->au->Prop}(cR:cB Γ=b3)(H:Ip P fn call pl cL path Γ d q h Q):a4 P fn call path ⟨b3,d,q,h⟩ Q:=by
 subst cR
 obtain⟨e,fG,d1,aV,aa,r1,bJ⟩:=qn _ 0 path Γ d q h _ rfl H
 exact⟨e,_,dT.post r1 (zr _ cL),bJ⟩
def Iq(P:Program)(fn:Func)(R:a7->Prop):r9:=λe Γ d q h=>match d with
 |[]=>match e with
  |.bK v=>.mk (R (.bK v h))
  |.ret|.nrm=>match p_ P (c8 fn) fn (cB Γ) h with
   |some v=>.mk (R (.ret v h))
   |none=>bad "results"
  |_=>bad "end"
 |_=>bad "deferred"
def Ir(P:Program)(fn:Func)(call:bt)(pl:ju)(Γ:cN)(h:ab)(R:a7->Prop):Prop:=
 (lz P call fn (c8 fn) pl (en fn) 0 [] Γ [] .none h (Iq P fn R)).p
theorem dq{intr:Nat->List I->ab->Option (I×ab)}{f n:Nat}{args:List I}{h:ab}{R:a7->Prop}(pl:ju)(Γ:cN)(hf:P.funcs[f]? =some fn)(ae:fn.body.isSome=true)(ag:intr f args h=none)(hle:Nat.ble args.length fn.ntmps=true)(cR:cB Γ=l9 0 args)(H:Ir P fn (et P intr n) pl Γ h R):R (et P intr (n+1) (.fn f) args h):=by
 refine HW hf ae ag hle (Q:=λe s=>s.d=[]/\((∃v,e=.bK v/\R (.bK v s.h))\/((e=.ret\/e=.nrm)/\∃v,p_ P (c8 fn) fn s.Γ s.h=some v/\R (.ret v s.h)))) ?_ λe s aE=>?_
 · have hs:sub (en fn) []=en fn:=by cases en fn<;>rfl
   obtain⟨e,fG,d1,aV,aa,r1,bJ⟩:=qn (en fn) 0 [] Γ [] .none h _ hs H
   rw[cR] at r1
   refine⟨e,⟨cB fG,d1,aV,aa⟩,by unfold bS;rw[hs];exact r1,?_⟩
   unfold Iq at bJ
   split at bJ
   · refine⟨rfl,?_⟩
     split at bJ
     · exact .inl ⟨_,rfl,bJ⟩
     · split at bJ
       · rename_i v aD;exact .inr ⟨.inl rfl,v,aD,bJ⟩
       · cases bJ
     · split at bJ
       · rename_i v aD;exact .inr ⟨.inr rfl,v,aD,bJ⟩
       · cases bJ
     · cases bJ
   · cases bJ
 · obtain⟨ak,aE⟩:=aE
   rcases aE with⟨v,rfl,ai⟩|⟨he,v,aD,ai⟩
   · exact .inr ⟨v,rfl,ak,ai⟩
   · exact .inl ⟨he,ak,v,aD,ai⟩
end
attribute [irreducible] Ip Ir
end a8
