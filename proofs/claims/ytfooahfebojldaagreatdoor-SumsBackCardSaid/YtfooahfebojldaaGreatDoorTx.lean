/-
  PROVED HERE: contracts of functions (Tx). No condition beside each statement's own.
-/
import Derived.Test.YtfooahfebojldaaGreatDoorSxb
set_option linter.unusedVariables false
set_option linter.unusedSimpArgs false
namespace ay
open Go
inductive Stop(jg:String):Prop
inductive cL where
 |mk (p:Prop)
def cL.p:cL->Prop
 |.mk p=>p
abbrev bad(w:String):cL:=.mk (Stop w)
abbrev gq(p:Prop)(k:cL):cL:=.mk (p/\k.p)
abbrev ei{α:Type}(f:α->cL):cL:=.mk (∃x:α,(f x).p)
abbrev yL(c c':Prop)(a b:cL):cL:=.mk ((c->a.p)/\(c'->b.p))
inductive aF where
 |v (a:J)
 |o (a:J)
 |jX|jY
 |lt (i n:Nat)|le (i n:Nat)|eq (i n:Nat)
 |ck (s:aF)
 |ej (l:List aF)
 |kk (l:List aF)
def aF.kM:aF->Bool
 |.jX=>true
 |.jY=>false
 |.lt i n=>dZ (.ofNat i) (.ofNat n)
 |.le i n=>fE (.ofNat i) (.ofNat n)
 |.eq i n=>de (.ofNat i) (.ofNat n)
 |.ck s=>!s.kM
 |.v (.bool b)=>b
 |_=>false
def aF.tX:aF->Bool
 |.jX|.jY|.lt _ _|.le _ _|.eq _ _|.ck _=>true
 |.v (.bool _)=>true
 |_=>false
mutual
def aF.den:aF->J
 |.v a=>a
 |.o a=>a
 |.jX=>.bool true
 |.jY=>.bool false
 |.lt i n=>.bool (dZ (.ofNat i) (.ofNat n))
 |.le i n=>.bool (fE (.ofNat i) (.ofNat n))
 |.eq i n=>.bool (de (.ofNat i) (.ofNat n))
 |.ck s=>.bool (!s.kM)
 |.ej l=>.agg (aF.bQ l)
 |.kk l=>.aD (aF.bQ l)
def aF.bQ:List aF->List J
 |[]=>[]
 |s::l=>s.den::aF.bQ l
end
def ly:J->aF
 |.bool true=>.jX
 |.bool false=>.jY
 |v=>.v v
abbrev dc:=List (Nat×aF)
def cU:dc->Env
 |[]=>[]
 |(t,s)::l=>(t,s.den)::cU l
def tY(t:Nat):dc->Option aF
 |[]=>none
 |(u,s)::l=>match Nat.beq t u with
  |true=>some s
  |false=>tY t l
def tZ:Nat->List aF->Option aF
 |_,[]=>none
 |0,s::_=>some s
 |n+1,_::l=>tZ n l
def t_:Nat->aF->List aF->List aF
 |_,_,[]=>[]
 |0,x,_::l=>x::l
 |n+1,x,s::l=>s::t_ n x l
def BY(t:Nat)(x:aF):dc->dc
 |[]=>[]
 |(u,s)::l=>match Nat.beq t u with
  |true=>(u,x)::l
  |false=>(u,s)::BY t x l
def l9(m:Nat)(env:List aF)(Γ:dc):Acc->Option aF
 |.env j=>match Nat.blt j m with
  |true=>tZ (m-1-j) env
  |false=>none
 |.lh p=>tY p.num Γ
 |.val v=>some (ly v)
def v9(m:Nat)(a:Acc)(b:aF)(env:List aF):List aF:=match a with
 |.env j=>t_ (m-1-j) b env
 |_=>env
def ua(a:Acc)(b:aF)(Γ:dc):dc:=match a with
 |.lh p=>BY p.num b Γ
 |_=>Γ
def aF.l_(s:aF)(K:aF->cL):cL:=match s with
 |.v a=>K (.v a)
 |.o a=>K (.o a)
 |.jX=>K .jX
 |.jY=>K .jY
 |.lt i n=>K (.lt i n)
 |.le i n=>K (.le i n)
 |.eq i n=>K (.eq i n)
 |.ck s=>K (.ck s)
 |.ej l=>K (.ej l)
 |.kk l=>K (.kk l)
def sb:List aF->(List aF->cL)->cL
 |[],K=>K []
 |s::l,K=>s.l_ λs=>sb l λl=>K (s::l)
def nE:dc->(dc->cL)->cL
 |[],K=>K []
 |(t,s)::l,K=>s.l_ λs=>nE l λl=>K ((t,s)::l)
inductive km where
 |ty (t:TypeId)
 |is (v:J)|io (v:J)
 |z (k:IntKind)
 |n (k:IntKind)
 |o
 |p|Lw
 |st|b
 |ih|ub (c:cj)
 |kk (l:List km)|ej (l:List km)
 |Lx (t:TypeId) (s:km)
 |fn (f:Nat) (k:Nat)
inductive pF where
 |bW (s:km)
 |t|f
 |p (s:km)
 |e (r:Option km) (s:km)
 |fw (ins:List Nat) (outs:List (bK×List (Nat×km)))
def FG:List aF->List aF
 |[]=>[]
 |.ej l::r=>l++FG r
 |s::r=>s::FG r
abbrev kN:=List (Nat×pF)
def uc(k:Nat):kN->Option pF
 |[]=>none
 |(j,o)::l=>match Nat.beq k j with
  |true=>some o
  |false=>uc k l
mutual
def shape(P:Program):Nat->km->(aF->cL)->cL
 |0,_,_=>bad "shape"
 |n+1,s,K=>match s with
  |.is v=>K (ly v)
  |.io v=>K (.o v)
  |.z k=>ei λx:Int=>K (.o (.int k x))
  |.n k=>ei λx:Nat=>K (.v (.int k (.ofNat x)))
  |.o=>ei λx:J=>K (.o x)
  |.p=>ei λx:Nat=>K (.v (.ptr x 0))
  |.Lw=>ei λx:Nat=>ei λy:Nat=>K (.v (.ptr x y))
  |.st=>ei λx:List UInt8=>K (.v (.str x))
  |.b=>ei λx:Bool=>K (.v (.bool x))
  |.ih=>ei λx:Nat=>ei λy:Nat=>ei λz:Nat=>ei λc:cj=>K (.v (.slice x y z c))
  |.ub c=>ei λx:Nat=>ei λz:Nat=>K (.v (.slice x 0 z c))
  |.kk l=>sc P n l λr=>K (.kk r)
  |.ej l=>sc P n l λr=>K (.ej r)
  |.Lx t s=>shape P n s λx=>K (.v (.iface t x.den))
  |.fn f k=>ei λx:List J=>K (.v (.fn f [] x))
  |.ty t=>match P.underlying t with
   |some .bool=>ei λx:Bool=>K (.v (.bool x))
   |some (.int k)=>ei λx:Nat=>K (.v (.int k (.ofNat x)))
   |some .string=>ei λx:List UInt8=>K (.v (.str x))
   |some (.pointer _)=>ei λx:Nat=>K (.v (.ptr x 0))
   |some (.struct ct)=>sc P n (ct.toList.map λf=>.ty f.type) λr=>K (.ej (FG r))
   |some (.tuple ts)=>sc P n (ts.toList.map .ty) λr=>K (.kk r)
   |some .invalid=>K (.v (.aD []))
   |some _=>ei λx:J=>K (.o x)
   |none=>K (.v (.aD []))
def sc(P:Program):Nat->List km->(List aF->cL)->cL
 |0,_,_=>bad "shapes"
 |n+1,l,K=>match l with
  |[]=>K []
  |s::l=>shape P n s λx=>sc P n l λr=>K (x::r)
end
def aF.dB(eM:Option Bool)(A B:cL):aF->cL
 |.jX=>A
 |.jY=>B
 |.lt i n=>match eM with
  |none=>yL (i<n) (¬i<n) A B
  |some true=>gq (i<n) A
  |some false=>gq (¬i<n) B
 |.le i n=>match eM with
  |none=>yL (i<=n) (¬i<=n) A B
  |some true=>gq (i<=n) A
  |some false=>gq (¬i<=n) B
 |.eq i n=>match eM with
  |none=>yL (i=n) (¬i=n) A B
  |some true=>gq (i=n) A
  |some false=>gq (¬i=n) B
 |.ck s=>s.dB (match eM with|none=>none|some b=>some (!b)) B A
 |.v (.bool x)=>match eM with
  |none=>yL (x=true) (x=false) A B
  |some true=>gq (x=true) A
  |some false=>gq (x=false) B
 |_=>bad "choice"
def BZ(o:Option pF):Option Bool:=match o with
 |some .t=>some true
 |some .f=>some false
 |_=>none
def FH(o:Option pF)(t:TypeId):km:=match o with
 |some (.bW s)=>s
 |_=>.ty t
def FI(op:BinOp)(x y:aF):Option aF:=match x,y with
 |.v (.int k (.ofNat a)),.v (.int ew (.ofNat b))=>match decide (k=ew) with
  |true=>match op with
   |.lss=>some (.lt a b)
   |.leq=>some (.le a b)
   |.gtr=>some (.lt b a)
   |.geq=>some (.le b a)
   |.eql=>some (.eq a b)
   |.neq=>some (.ck (.eq a b))
   |_=>none
  |false=>none
 |_,_=>none
def FJ(op:BinOp)(x y:aF):Option (Prop×J):=match x,y with
 |.v (.int k (.ofNat a)),.v (.int ew (.ofNat b))=>match decide (k=ew),op,k with
  |true,.add,.i64=>some (a+b<9223372036854775808,.int .i64 (.ofNat (a+b)))
  |true,.sub,.i64=>some (b<=a/\a<9223372036854775808,.int .i64 (.ofNat (a-b)))
  |true,.mul,.i64=>some (a*b<9223372036854775808,.int .i64 (.ofNat (a*b)))
  |true,.add,.u64=>some (a+b<18446744073709551616,.int .u64 (.ofNat (a+b)))
  |true,.sub,.u64=>some (b<=a/\a<18446744073709551616,.int .u64 (.ofNat (a-b)))
  |_,_,_=>none
 |.v (.str a),.v (.str b)=>match op with
  |.add=>some (a.length+b.length<=1000000000000,.str (a++b))
  |_=>none
 |_,_=>none
def ud:aF->List J
 |.o a=>[a]
 |s=>s.den.cells
def ue:List aF->cL->cL
 |[],K=>K
 |.o a::l,K=>gq (a.bF=true) (ue l K)
 |_::l,K=>ue l K
def uf:List aF->Bool
 |[]=>true
 |.o _::l=>uf l
 |s::l=>s.den.bF&&uf l
def v_(s:aF)(K:cL):cL:=match s with
 |.o a=>gq (a.bF=true) K
 |.ej l=>match uf l with
  |true=>ue l K
  |false=>bad "cells"
 |s=>match s.den.cells.all J.bF with
  |true=>K
  |false=>bad "cells"
def mJ:aF->List aF
 |.ej l=>l
 |.v (.agg cs)=>cs.map ly
 |s=>[s]
def aF.FK:aF->Bool
 |.o _=>true
 |_=>false
def ug(place:Nat->Option (Nat×Nat)):List aF->List (Nat×aF)->Option (List aF)
 |cells,[]=>some cells
 |cells,(i,s)::rest=>match place i with
  |none=>none
  |some (off,size)=>match Nat.beq (mJ s).length size&&Nat.ble (off+size) cells.length with
   |true=>ug place (cells.take off++mJ s++(cells.drop off).drop (mJ s).length) rest
   |false=>none
def nF:List (Nat×aF)->List aF
 |[]=>[]
 |(_,s)::l=>mJ s++nF l
def B0(P:Program)(t:TypeId)(len:Nat)(ps:List (Nat×aF))(K:TypeId->List aF->cL):cL:=match P.underlying t with
 |some (.slice e)=>match dm P e,eG P e with
  |some sz,some z=>match Nat.ble (len*sz) 16777216&&Nat.beq z.cells.length sz,(if len*sz=0 then[] else e8 len z.cells).all J.bF,ug (λi=>some (i*sz,sz)) ((if len*sz=0 then[] else e8 len z.cells).map ly) ps,uf (nF ps) with
   |true,true,some cs,true=>ue (nF ps) (sb cs λcs=>K e cs)
   |_,_,_,_=>bad "buildSlice"
  |_,_=>bad "buildSlice"
 |_=>bad "buildSlice"
def hK(a b:Bool):Bool:=a==b
def FL(P:Program)(op:BinOp)(t:TypeId)(x y:aF):Option aF:=match x.tX&&y.tX,P.underlying t,op with
 |true,some .bool,.eql=>some (.v (.bool (hK x.kM y.kM)))
 |true,some .bool,.neq=>some (.ck (.v (.bool (hK x.kM y.kM))))
 |_,_,_=>none
def UT(x y:aF):Bool:=match x,y with
 |.v (.ptr _ _),.v .bc|.v .bc,.v .bc|.v (.slice _ _ _ _),.v .az|.v .az,.v .az|.v (.iface _ _),.v .eO|.v .eO,.v .eO=>true
 |_,_=>false
section
variable (P:Program) (inR:Bool) (call:aO->List J->aa->ax)
abbrev pG:=aF->List bC->bG->aa->cL
abbrev pH:=J->List bC->bG->aa->cL
def B1(eM:Option pF)(t:TypeId)(f:aO)(args:List J)(d:List bC)(q:bG)(h:aa)(K:pG)(dU:pH):cL:=match eM with
 |some (.p s)=>shape P 9 s λx=>ei λg:aa=>gq (call f args h=.bk x.den g) (dU x.den d q g)
 |some (.e r s)=>.mk ((shape P 9 (match r with|some r=>r|none=>.ty t) λx=>ei λg:aa=>gq (call f args h=.ret x.den g) (K x d q g)).p\/(shape P 9 s λx=>ei λg:aa=>gq (call f args h=.bk x.den g) (dU x.den d q g)).p)
 |eM=>shape P 9 (FH eM t) λx=>ei λg:aa=>gq (call f args h=.ret x.den g) (K x d q g)
def qI(eM:Option pF)(o:Oper)(g:Operand->aF)(d:List bC)(q:bG)(h:aa)(K:pG)(dU:pH):cL:=
 match E8 o (λx=>(g x).den) with
 |0=>match cD P o (λx=>(g x).den) h with
  |.val v an=>match eM with
   |some (.bW .o)=>K (.o v) d q an
   |_=>K (.v v) d q an
  |.bk v an=>dU v d q an
  |.call f args an=>B1 P call eM o.type (.fn f) args d q an K dU
  |.bR l args an=>B1 P call eM o.type (.bR l) args d q an K dU
  |.ju x=>match inR with
   |true=>bad "defer"
   |false=>K (.v (.aD [])) (x::d) q h
  |.sW=>match inR with
   |true=>bad "recover"
   |false=>match q with
    |.none=>K (.v .eO) d .none h
    |.done v=>K (.v .eO) d (.done v) h
    |.act v=>K (.v v) d (.done v) h
  |.fail w=>bad w
 |1=>shape P 9 (FH eM o.type) λx=>gq (ov P o (λy=>(g y).den) h x.den) (K x d q h)
 |_=>shape P 9 (FH eM o.type) λx=>ei λan:aa=>gq (vS P o (λy=>(g y).den) h x.den an) (K x d q an)
def FM(eM:Option pF)(o:Oper)(g:Operand->aF)(d:List bC)(q:bG)(h:aa)(K:pG)(dU:pH):cL:=match o.op with
 |.move x|.assign x=>(g x).l_ λs=>K s d q h
 |.unOp .not _ x=>match(g x).tX with
  |true=>(g x).l_ λs=>K (.ck s) d q h
  |false=>bad "not"
 |.binOp op t x y _=>(g x).l_ λu=>(g y).l_ λw=>match(match FI op u w with|some s=>some s|none=>FL P op t u w) with
  |some s=>K s d q h
  |none=>match UT u w with
   |true=>match er P h op t x y u.den w.den with
    |some v=>(ly v).l_ λs=>K s d q h
    |none=>bad "nil"
   |false=>match(match eM with|none=>FJ op u w|some _=>none) with
    |some (p,v)=>gq p (K (.v v) d q h)
    |none=>qI P inR call eM o g d q h K dU
 |.extract x i=>match g x with
  |.kk l=>match tZ i l with
   |some s=>s.l_ λs=>K s d q h
   |none=>bad "extract"
  |_=>qI P inR call eM o g d q h K dU
 |.indexAddr t x i=>match P.underlying t,g x,fF (g i).den with
  |some (.array m e),.v (.ptr b off),some n=>match dm P e with
   |some sz=>gq (n<m) (K (.v (.ptr b (off+n*sz))) d q h)
   |none=>bad "indexAddr"
  |some (.slice e),.v (.slice b off m c),some n=>match dm P e with
   |some sz=>gq (n<m) (K (.v (.ptr b (off+n*sz))) d q h)
   |none=>bad "indexAddr"
  |_,_,_=>bad "indexAddr of what"
 |.store t a x=>match(g a).den,dm P t with
  |.ptr b off,some n=>match Nat.beq (ud (g x)).length n with
   |true=>(g x).l_ λs=>v_ s (ei λez:aa=>gq (storeCells h b off (ud s)=some ez) (K (.v (.aD [])) d q ez))
   |false=>bad "store size"
  |_,_=>bad "store"
 |.build t parts=>match(nF (parts.toList.map λp=>(p.1,g p.2))).any aF.FK with
  |false=>qI P inR call eM o g d q h K dU
  |true=>match eG P t,P.underlying t with
   |some z,some (.struct ct)=>match ct.toList.all (λf=>(dm P f.type).isSome),ug (λi=>(ct[i]?).map λf=>(f.offset,P.cellsOf f.type)) (z.cells.map ly) (parts.toList.map λp=>(p.1,g p.2)),uf (nF (parts.toList.map λp=>(p.1,g p.2))) with
    |true,some cs,true=>ue (nF (parts.toList.map λp=>(p.1,g p.2))) (sb cs λcs=>K (.ej cs) d q h)
    |_,_,_=>bad "build"
   |_,_=>bad "build of what"
 |.buildSlice t len parts=>match(nF (parts.toList.map λp=>(p.1,g p.2))).any aF.FK with
  |false=>qI P inR call eM o g d q h K dU
  |true=>B0 P t len (parts.toList.map λp=>(p.1,g p.2)) λe cs=>K (.v (.slice h.n 0 len (.exact len))) d q (h.push (.cells (aF.bQ cs) e .own 0 0))
 |.box e x=>(g x).l_ λs=>v_ s (K (.v (.ptr h.n 0)) d q (h.push (.cells (ud s) e .own 0 0)))
 |.call c=>match c.callee with
  |.builtin .len=>match c.args.toList.map g,c.argTypes[0]? with
   |[.o a],some t=>ei λn:Nat=>gq (cO P h t a=some (.int .i64 (.ofNat n))) (K (.v (.int .i64 (.ofNat n))) d q h)
   |_,_=>qI P inR call eM o g d q h K dU
  |_=>qI P inR call eM o g d q h K dU
 |_=>qI P inR call eM o g d q h K dU
end
end ay
namespace ay
open Go
theorem aF.pI{s:aF}(h:s.tX=true):s.den=.bool s.kM:=by
 cases s with
 |v a=>cases a<;>first|rfl|cases h
 |o a=>cases h
 |ej l=>cases h
 |kk l=>cases h
 |jX=>rfl
 |jY=>rfl
 |lt i n=>rfl
 |le i n=>rfl
 |eq i n=>rfl
 |ck s=>rfl
theorem yM(a:J):(ly a).den=a:=by
 unfold ly;split<;>rfl
theorem FN:∀(n:Nat) (l:List aF),(tZ n l).map aF.den=nth n (aF.bQ l)
 |0,[]=>rfl
 |_+1,[]=>rfl
 |0,x::l=>rfl
 |n+1,x::l=>FN n l
theorem Ly(n:Nat)(l:List aF)(s:aF)(h:tZ n l=some s):nth n (aF.bQ l)=some s.den:=by
 rw[<-FN,h];rfl
theorem Lz(t:Nat):∀Γ:dc,(tY t Γ).map aF.den=fy t (cU Γ)
 |[]=>rfl
 |(u,x)::l=>by
  simp only[tY,cU,fy]
  cases ag:Nat.beq t u with
  |true=>rfl
  |false=>exact Lz t l
def hl(m:Nat)(l:List J)(G:Env):Acc->Option J
 |.env j=>match Nat.blt j m with
  |true=>nth (m-1-j) l
  |false=>none
 |.lh p=>fy p.num G
 |.val v=>some v
theorem wa(m:Nat)(env:List aF)(Γ:dc)(a:Acc):(l9 m env Γ a).map aF.den=hl m (aF.bQ env) (cU Γ) a:=by
 cases a with
 |env j=>
  simp only[l9,hl]
  cases Nat.blt j m with
  |true=>exact FN _ _
  |false=>rfl
 |lh p=>exact Lz _ _
 |val v=>simp only[l9,hl,Option.map_some,yM]
theorem wb{m:Nat}{l:List J}{G:Env}{r:aU}(hm:Mod r G){a:Acc}{v:J}(h:hl m l G a=some v):d_ m l r a=v:=by
 cases a with
 |env j=>
  simp only[hl] at h
  split at h
  · simp only[d_,h,Option.getD_some]
  · cases h
 |lh p=>simp only[hl] at h;simp only[d_];rw[<-K1 p];exact hm _ _ h
 |val x=>cases h;rfl
theorem yN{m:Nat}{l:List J}{G:Env}{a:Acc}{v:J}(x:J)(h:hl m l G a=some v):hl (m+1) (x::l) G a=some v:=by
 cases a with
 |env j=>
  simp only[hl] at h⊢
  split at h
  · rename_i ag
    have aI:j<m:=by simpa using ag
    have dS:Nat.blt j (m+1)=true:=by simp;omega
    rw[dS]
    have:m+1-1-j=(m-1-j)+1:=by omega
    rw[this];exact h
  · cases h
 |lh p=>exact h
 |val x=>exact h
theorem LA(x:aF):∀(n:Nat) (l:List aF),(∀s,tZ n l=some s->s.den=x.den)->aF.bQ (t_ n x l)=aF.bQ l
 |0,[],_=>rfl
 |_+1,[],_=>rfl
 |0,s::l,h=>by simp only[t_,aF.bQ,h s rfl]
 |n+1,s::l,h=>by simp only[t_,aF.bQ];rw[LA x n l h]
theorem LB(x:aF):∀(n:Nat) (l:List aF),(t_ n x l).length=l.length
 |0,[]=>rfl
 |_+1,[]=>rfl
 |0,s::l=>rfl
 |n+1,s::l=>by simp only[t_,List.length_cons,LB x n l]
theorem LC(t:Nat)(x:aF):∀Γ:dc,(∀s,tY t Γ=some s->s.den=x.den)->cU (BY t x Γ)=cU Γ
 |[],_=>rfl
 |(u,s)::l,h=>by
  simp only[BY]
  simp only[tY] at h
  cases ag:Nat.beq t u with
  |true=>rw[ag] at h;simp only[cU,h s rfl]
  |false=>rw[ag] at h;simp only[cU];rw[LC t x l h]
theorem wc{m:Nat}{env:List aF}{Γ:dc}{a:Acc}{s x:aF}(h:l9 m env Γ a=some s)(e:s.den=x.den):aF.bQ (v9 m a x env)=aF.bQ env/\cU (ua a x Γ)=cU Γ/\(v9 m a x env).length=env.length:=by
 cases a with
 |env j=>
  simp only[l9] at h
  split at h
  · exact⟨LA x _ _ λa4 hs=>by rw[h] at hs;cases hs;exact e,rfl,LB _ _ _⟩
  · cases h
 |lh p=>exact⟨rfl,LC _ _ _ λa4 hs=>by rw[show tY p.num Γ=some s from h] at hs;cases hs;exact e,rfl⟩
 |val v=>exact⟨rfl,rfl,rfl⟩
theorem aF.ma{s:aF}{K:aF->cL}(h:(s.l_ K).p):(K s).p:=by cases s<;>exact h
theorem uh:∀{l:List aF} {K:List aF->cL},(sb l K).p->(K l).p
 |[],_,h=>h
 |s::l,K,h=>uh (l:=l) (aF.ma h)
theorem oA:∀{l:dc} {K:dc->cL},(nE l K).p->(K l).p
 |[],_,h=>h
 |(t,s)::l,K,h=>oA (l:=l) (aF.ma h)
theorem LD{P:Program}:∀(n:Nat),(∀(s:km) (K:aF->cL),(shape P n s K).p->∃x,(K x).p)/\(∀(l:List km) (K:List aF->cL),(sc P n l K).p->∃x,(K x).p)
 |0=>⟨λs K h=>(by simp only[shape] at h;cases h),λl K h=>(by simp only[sc] at h;cases h)⟩
 |n+1=>by
  obtain⟨ab,ae⟩:=LD (P:=P) n
  refine⟨λs K h=>?_,λl K h=>?_⟩
  · simp only[shape] at h
    cases s with
    |is v=>exact⟨_,h⟩
    |io v=>exact⟨_,h⟩
    |z k=>obtain⟨x,h⟩:=h;exact⟨_,h⟩
    |n k=>obtain⟨x,h⟩:=h;exact⟨_,h⟩
    |o=>obtain⟨x,h⟩:=h;exact⟨_,h⟩
    |p=>obtain⟨x,h⟩:=h;exact⟨_,h⟩
    |Lw=>obtain⟨x,y,h⟩:=h;exact⟨_,h⟩
    |st=>obtain⟨x,h⟩:=h;exact⟨_,h⟩
    |b=>obtain⟨x,h⟩:=h;exact⟨_,h⟩
    |ih=>obtain⟨x,y,z,c,h⟩:=h;exact⟨_,h⟩
    |ub c=>obtain⟨x,z,h⟩:=h;exact⟨_,h⟩
    |kk l=>obtain⟨r,h⟩:=ae _ _ h;exact⟨_,h⟩
    |ej l=>obtain⟨r,h⟩:=ae _ _ h;exact⟨_,h⟩
    |Lx t s=>obtain⟨r,h⟩:=ab _ _ h;exact⟨_,h⟩
    |fn f k=>obtain⟨x,h⟩:=h;exact⟨_,h⟩
    |ty t=>
     simp only at h
     split at h
     · obtain⟨x,h⟩:=h;exact⟨_,h⟩
     · obtain⟨x,h⟩:=h;exact⟨_,h⟩
     · obtain⟨x,h⟩:=h;exact⟨_,h⟩
     · obtain⟨x,h⟩:=h;exact⟨_,h⟩
     · obtain⟨r,h⟩:=ae _ _ h;exact⟨_,h⟩
     · obtain⟨r,h⟩:=ae _ _ h;exact⟨_,h⟩
     · exact⟨_,h⟩
     · obtain⟨x,h⟩:=h;exact⟨_,h⟩
     · exact⟨_,h⟩
  · simp only[sc] at h
    cases l with
    |nil=>exact⟨_,h⟩
    |cons s l=>
     obtain⟨x,h⟩:=ab _ _ h
     obtain⟨r,h⟩:=ae _ _ h
     exact⟨_,h⟩
theorem ui{P:Program}{n:Nat}{s:km}{K:aF->cL}(h:(shape P n s K).p):∃x,(K x).p:=(LD n).1 s K h
theorem FO{p:Prop}{A B:cL}{eM:Option Bool}(h:(match eM with
  |none=>yL p (¬p) A B
  |some true=>gq p A
  |some false=>gq (¬p) B).p):(p/\A.p)\/(¬p/\B.p):=by
 cases eM with
 |none=>by_cases aY:p
        · exact .inl ⟨aY,h.1 aY⟩
        · exact .inr ⟨aY,h.2 aY⟩
 |some b=>cases b with
  |true=>exact .inl h
  |false=>exact .inr h
theorem B2:∀(s:aF) {eM:Option Bool} {A B:cL},(s.dB eM A B).p->s.tX=true/\((s.kM=true/\A.p)\/(s.kM=false/\B.p))
 |.jX,_,_,_,h=>⟨rfl,.inl ⟨rfl,h⟩⟩
 |.jY,_,_,_,h=>⟨rfl,.inr ⟨rfl,h⟩⟩
 |.lt i n,eM,A,B,h=>by
  refine⟨rfl,?_⟩
  rcases FO (p:=i<n) h with⟨ab,ae⟩|⟨ab,ae⟩
  · exact .inl ⟨kj ab,ae⟩
  · exact .inr ⟨mH ab,ae⟩
 |.le i n,eM,A,B,h=>by
  refine⟨rfl,?_⟩
  rcases FO (p:=i<=n) h with⟨ab,ae⟩|⟨ab,ae⟩
  · exact .inl ⟨nC ab,ae⟩
  · exact .inr ⟨tU ab,ae⟩
 |.eq i n,eM,A,B,h=>by
  refine⟨rfl,?_⟩
  rcases FO (p:=i=n) h with⟨ab,ae⟩|⟨ab,ae⟩
  · exact .inl ⟨BU ab,ae⟩
  · exact .inr ⟨v5 ab,ae⟩
 |.ck s,eM,A,B,h=>by
  refine⟨rfl,?_⟩
  simp only[aF.dB] at h
  obtain⟨_,ae⟩:=B2 s h
  simp only[aF.kM]
  rcases ae with⟨e,k⟩|⟨e,k⟩
  · right;exact⟨by rw[e];rfl,k⟩
  · left;exact⟨by rw[e];rfl,k⟩
 |.v a,eM,A,B,h=>by
  cases a<;>simp only[aF.dB] at h<;>first|(cases h;done)|skip
  rename_i x
  refine⟨rfl,?_⟩
  simp only[aF.kM]
  cases x with
  |true=>left;refine⟨rfl,?_⟩;cases eM with
   |none=>exact h.1 rfl
   |some b=>cases b with
    |true=>exact h.2
    |false=>cases h.1
  |false=>right;refine⟨rfl,?_⟩;cases eM with
   |none=>exact h.2 rfl
   |some b=>cases b with
    |true=>cases h.1
    |false=>exact h.2
 |.o a,_,_,_,h=>by simp only[aF.dB] at h;cases h
 |.ej l,_,_,_,h=>by simp only[aF.dB] at h;cases h
 |.kk l,_,_,_,h=>by simp only[aF.dB] at h;cases h
section
variable {P:Program} {inR:Bool} {call:aO->List J->aa->ax}
def h7(x:xt)(K:pG)(dU:pH):Prop:=(∃s d q h,x=.ok (aF.den s) d q h/\(K s d q h).p)\/∃v d q h,x=.bk v d q h/\(dU v d q h).p
theorem h7.val{o:Oper}{g:Operand->J}{d:List bC}{q:bG}{h an:aa}{K:pG}{dU:pH}{s:aF}(e:cD P o g h=.val s.den an)(k:(K s d q an).p):h7 (eb P inR call none o g d q h) K dU:=
 .inl ⟨s,d,q,an,by simp only[eb,eH,e],k⟩
theorem yO{K:cL}:∀(l:List aF),uf l=true->(ue l K).p->(aF.bQ l).all J.bF=true/\K.p
 |[],_,h=>⟨rfl,h⟩
 |x::l,au,h=>by
  cases x with
  |o a=>
   obtain⟨ab,ae⟩:=h
   obtain⟨bz,bA⟩:=yO l au ae
   exact⟨by simp only[aF.bQ,List.all_cons,aF.den,ab,bz,Bool.and_self],bA⟩
  |_=>
   simp only[uf,Bool.and_eq_true] at au
   simp only[ue] at h
   obtain⟨bz,bA⟩:=yO l au.2 h
   exact⟨by simp only[aF.bQ,List.all_cons,au.1,bz,Bool.and_self],bA⟩
theorem FP{s:aF}{K:cL}(h:(v_ s K).p):s.den.cells=ud s/\(ud s).all J.bF=true/\K.p:=by
 cases s with
 |o a=>
  obtain⟨ab,ae⟩:=h
  refine⟨?_,by simp[ud,ab],ae⟩
  show a.cells=[a]
  cases a<;>first|rfl|cases ab
 |ej l=>
  simp only[v_] at h
  split at h
  · rename_i au;exact⟨rfl,yO l au h⟩
  · cases h
 |_=>
  simp only[v_] at h
  split at h
  · rename_i au;exact⟨rfl,au,h⟩
  · cases h
theorem lz:∀l:List aF,aF.bQ l=l.map aF.den
 |[]=>rfl
 |s::l=>by simp only[aF.bQ,List.map_cons,lz l]
theorem UU{s:aF}(h:(aF.bQ (mJ s)).all J.bF=true):s.den.cells=aF.bQ (mJ s)/\s.den≠ .bad:=by
 have one:∀a:J,a.bF=true->a.cells=[a]/\a≠ .bad:=λa a5=>by cases a<;>first|(cases a5;done)|exact⟨rfl,λh=>by cases h⟩
 have key:mJ s=[s]->s.den.cells=aF.bQ (mJ s)/\s.den≠ .bad:=λe=>by
  rw[e] at h⊢
  simp only[aF.bQ,List.all_cons,List.all_nil,Bool.and_true] at h⊢
  exact one _ h
 cases s with
 |ej l=>exact⟨rfl,nofun⟩
 |v a=>
  cases a with
  |agg cs=>
   refine⟨?_,nofun⟩
   show cs=aF.bQ (cs.map ly)
   rw[lz,List.map_map]
   have:aF.den∘ly=id:=funext yM
   rw[this,List.map_id]
  |_=>exact key rfl
 |_=>exact key rfl
theorem UW{place:Nat->Option (Nat×Nat)}{cells:List J}{i:Nat}{v:J}{rest:List (Nat×J)}{off size:Nat}(aH:v≠ .bad)(aY:place i=some (off,size))(ag:(Nat.beq v.cells.length size&&Nat.ble (off+size) cells.length)=true){cs:List J}(ah:eP off v.cells cells=some cs):jR place cells ((i,v)::rest)=jR place cs rest:=by
 cases v<;>first|exact absurd rfl aH|simp only[jR,aY,ag,ah]
theorem FQ{place:Nat->Option (Nat×Nat)}:∀(ps:List (Nat×aF)) (cells cs:List aF),ug place cells ps=some cs->(aF.bQ (nF ps)).all J.bF=true->jR place (aF.bQ cells) (ps.map λp=>(p.1,p.2.den))=some (aF.bQ cs)
 |[],cells,cs,h,_=>by cases h;rfl
 |(i,s)::rest,cells,cs,h,a5=>by
  simp only[nF,lz,List.map_append,List.all_append,Bool.and_eq_true] at a5
  rw[<-lz,<-lz] at a5
  obtain⟨bz,bA⟩:=UU a5.1
  simp only[ug] at h
  split at h
  · cases h
  · rename_i off size aY
    split at h
    · rename_i ag
      have aw:(aF.bQ (mJ s)).length=(mJ s).length:=by rw[lz,List.length_map]
      have ah:(aF.bQ cells).length=cells.length:=by rw[lz,List.length_map]
      have dS:=ag
      simp only[Bool.and_eq_true,Nat.ble_eq] at dS
      have bE:=Nat.eq_of_beq_eq_true dS.1
      have xF:eP off s.den.cells (aF.bQ cells)=some (aF.bQ (cells.take off++mJ s++(cells.drop off).drop (mJ s).length)):=by
       have:=yG ((aF.bQ cells).take off) (aF.bQ (mJ s)) ((aF.bQ cells).drop off) a5.1 (by simp;omega)
       rw[List.length_take,Nat.min_eq_left (by omega),List.take_append_drop] at this
       rw[bz,this,aw]
       simp only[lz,List.map_append,List.map_take,List.map_drop,List.append_assoc]
      rw[List.map_cons,UW bA aY (by rw[bz,aw,ah];exact ag) xF]
      exact FQ rest _ cs h a5.2
    · cases h
theorem LF{place:Nat->Option (Nat×Nat)}:∀(ps:List (Nat×aF)) (cells cs:List aF),ug place cells ps=some cs->(aF.bQ cells).all J.bF=true->(aF.bQ (nF ps)).all J.bF=true->(aF.bQ cs).all J.bF=true
 |[],cells,cs,h,ah,_=>by cases h;exact ah
 |(i,s)::rest,cells,cs,h,ah,a5=>by
  simp only[nF,lz,List.map_append,List.all_append,Bool.and_eq_true] at a5
  rw[<-lz,<-lz] at a5
  simp only[ug] at h
  split at h
  · cases h
  · split at h
    · refine LF rest _ cs h ?_ a5.2
      rw[lz] at ah⊢
      rw[List.all_eq_true] at ah⊢
      have ab:=a5.1
      rw[lz,List.all_eq_true] at ab
      intro x ad
      rw[List.map_append,List.map_append,List.mem_append,List.mem_append] at ad
      rcases ad with(ad|ad)|ad
      · rw[List.map_take] at ad;exact ah x (List.mem_of_mem_take ad)
      · exact ab x ad
      · rw[List.map_drop,List.map_drop] at ad;exact ah x (List.mem_of_mem_drop (List.mem_of_mem_drop ad))
    · cases h
theorem LG{t:TypeId}{len:Nat}{ps:List (Nat×aF)}{K:TypeId->List aF->cL}(h:(B0 P t len ps K).p):∃e sz z cs,P.underlying t=some (.slice e)/\dm P e=some sz/\eG P e=some z/\(Nat.ble (len*sz) 16777216&&Nat.beq z.cells.length sz)=true/\jR (λi=>some (i*sz,sz)) (if len*sz=0 then[] else e8 len z.cells) (ps.map λp=>(p.1,p.2.den))=some (aF.bQ cs)/\(aF.bQ cs).all J.bF=true/\(K e cs).p:=by
 unfold B0 at h
 split at h
 · rename_i e hu
   split at h
   · rename_i sz z hs a0
     split at h
     · rename_i cs ab ae av aK
       obtain⟨ds,k⟩:=yO _ aK h
       have dW:aF.bQ ((if len*sz=0 then[] else e8 len z.cells).map ly)=(if len*sz=0 then[] else e8 len z.cells):=by rw[lz,List.map_map,show aF.den∘ly=id from funext yM,List.map_id]
       have hf:=FQ _ _ _ av ds
       have ah:=LF _ _ _ av (by rw[dW];exact ae) ds
       rw[dW] at hf
       exact⟨e,sz,z,cs,hu,hs,a0,ab,hf,ah,uh k⟩
     · cases h
   · cases h
 · cases h
theorem LH{g:Operand->aF}(parts:Array (Nat×Operand)):(parts.toList.map λp=>(p.1,g p.2)).map (λp=>(p.1,p.2.den))=parts.toList.map λp=>(p.1,(g p.2).den):=by
 rw[List.map_map];rfl
theorem LI{eM:Option pF}{t:TypeId}{f:aO}{args:List J}{d:List bC}{q:bG}{h:aa}{K:pG}{dU:pH}(ad:(B1 P call eM t f args d q h K dU).p):h7 (xu d q (call f args h)) K dU:=by
 unfold B1 at ad
 split at ad
 · obtain⟨x,g,e,k⟩:=ui ad
   rw[e];exact .inr ⟨_,_,_,_,rfl,k⟩
 · rcases ad with ad|ad
   · obtain⟨x,g,e,k⟩:=ui ad
     rw[e];exact .inl ⟨_,_,_,_,rfl,k⟩
   · obtain⟨x,g,e,k⟩:=ui ad
     rw[e];exact .inr ⟨_,_,_,_,rfl,k⟩
 · obtain⟨x,g,e,k⟩:=ui ad
   rw[e];exact .inl ⟨_,_,_,_,rfl,k⟩
theorem uj{eM:Option pF}{o:Oper}{g:Operand->aF}{d:List bC}{q:bG}{h:aa}{K:pG}{dU:pH}(ad:(qI P inR call eM o g d q h K dU).p):h7 (eb P inR call none o (λx=>(g x).den) d q h) K dU:=by
 unfold qI at ad
 split at ad
 · split at ad
   · rename_i v an he
     split at ad
     · exact h7.val (s:=.o v) he ad
     · exact h7.val (s:=.v v) he ad
   · rename_i v an he
     exact .inr ⟨v,d,q,an,by simp only[eb,eH,he],ad⟩
   · rename_i f args an he
     have:=LI ad
     simpa only[eb,eH,he] using this
   · rename_i l args an he
     have:=LI ad
     simpa only[eb,eH,he] using this
   · rename_i x he
     split at ad
     · cases ad
     · exact .inl ⟨.v (.aD []),_,_,_,by simp only[eb,eH,he];rfl,ad⟩
   · rename_i he
     split at ad
     · cases ad
     · split at ad
       · exact .inl ⟨.v .eO,_,_,_,by simp only[eb,eH,he];rfl,ad⟩
       · exact .inl ⟨.v .eO,_,_,_,by simp only[eb,eH,he];rfl,ad⟩
       · rename_i v
         exact .inl ⟨.v v,_,_,_,by simp only[eb,eH,he];rfl,ad⟩
   · cases ad
 · obtain⟨x,c,k⟩:=ui ad
   exact h7.val (tO c) k
 · obtain⟨x,an,c,k⟩:=ui ad
   exact h7.val (Fi c) k
theorem UX{op:BinOp}{x y s:aF}(ad:FI op x y=some s)(h:aa)(t:TypeId)(a b:Operand):er P h op t a b x.den y.den=some s.den:=by
 unfold FI at ad
 split at ad
 · rename_i k dp ew b'
   split at ad
   · rename_i au
     obtain rfl:k=ew:=of_decide_eq_true au
     split at ad<;>first|(cases ad;done)|(cases ad;simp only[aF.den,er,arith,if_true,aF.kM])
   · cases ad
 · cases ad
theorem UY{op:BinOp}{x y s:aF}{t:TypeId}(ad:FL P op t x y=some s)(h:aa)(a b:Operand):er P h op t a b x.den y.den=some s.den:=by
 unfold FL at ad
 split at ad
 · rename_i ag hu
   rw[Bool.and_eq_true] at ag
   cases ad
   rw[aF.pI ag.1,aF.pI ag.2]
   simp only[er,rk,if_true,ic,hu,aF.den,hK]
 · rename_i ag hu
   rw[Bool.and_eq_true] at ag
   cases ad
   rw[aF.pI ag.1,aF.pI ag.2]
   simp only[er,rk,if_true,ic,hu,aF.den,aF.kM,hK]
 · cases ad
theorem UZ{op:BinOp}{x y:aF}{p:Prop}{v:J}(ad:FJ op x y=some (p,v))(aY:p)(h:aa)(t:TypeId)(a b:Operand):er P h op t a b x.den y.den=some v:=by
 unfold FJ at ad
 split at ad
 · rename_i k dp ew b'
   split at ad
   · rename_i au;cases ad;obtain rfl:=of_decide_eq_true au
     simp only[aF.den,er,if_true];exact qG aY
   · rename_i au;cases ad;obtain rfl:=of_decide_eq_true au
     simp only[aF.den,er,if_true];exact r9 aY.1 aY.2
   · rename_i au;cases ad;obtain rfl:=of_decide_eq_true au
     simp only[aF.den,er,if_true];exact yH aY
   · rename_i au;cases ad;obtain rfl:=of_decide_eq_true au
     simp only[aF.den,er,if_true];exact Lk aY
   · rename_i au;cases ad;obtain rfl:=of_decide_eq_true au
     simp only[aF.den,er,if_true];exact Ll aY.1 aY.2
   · cases ad
 · split at ad
   · cases ad
     simp only[aF.den,er];exact yF aY
   · cases ad
 · cases ad
theorem U0{eM:Option pF}{o:Oper}{g:Operand->aF}{d:List bC}{q:bG}{h:aa}{K:pG}{dU:pH}(ad:(FM P inR call eM o g d q h K dU).p):h7 (eb P inR call none o (λx=>(g x).den) d q h) K dU:=by
 unfold FM at ad
 split at ad
 · rename_i x a8
   exact h7.val (s:=g x) (by simp only[cD,a8]) (aF.ma ad)
 · rename_i x a8
   exact h7.val (s:=g x) (by simp only[cD,a8]) (aF.ma ad)
 · rename_i t x a8
   split at ad
   · rename_i ag
     exact h7.val (s:=.ck (g x)) (by simp only[cD,a8,aF.pI ag];rfl) (aF.ma ad)
   · cases ad
 · rename_i op t x y yt a8
   replace ad:=aF.ma (aF.ma ad)
   have key:∀{s:aF},er P h op t x y (g x).den (g y).den=some s.den->(K s d q h).p->h7 (eb P inR call none o (λx=>(g x).den) d q h) K dU:=λ{s} e k=>h7.val (s:=s) (by simp only[cD,a8,e,fX]) k
   split at ad
   · rename_i s hs
     split at hs
     · rename_i a4 dF;cases hs;exact key (UX dF h t x y) ad
     · exact key (UY hs h x y) ad
   · split at ad
     · split at ad
       · rename_i v aH;exact key (s:=ly v) (by rw[yM];exact aH) (aF.ma ad)
       · cases ad
     · split at ad
       · rename_i p v aY
         cases eM with
         |none=>exact key (s:=.v v) (UZ aY ad.1 h t x y) ad.2
         |some _=>cases aY
       · exact uj ad
 · rename_i x i a8
   split at ad
   · rename_i l aw
     split at ad
     · rename_i s hs
       exact h7.val (s:=s) (by simp only[cD,a8,aw,aF.den,Ly _ _ _ hs,fX]) (aF.ma ad)
     · cases ad
   · exact uj ad
 · rename_i t x i a8
   split at ad
   · rename_i m e b off n hu r7 af
     split at ad
     · rename_i sz a0
       exact h7.val (s:=.v (.ptr b (off+n*sz))) (by simp only[cD,a8,hu,r7,aF.den,af,a0,if_pos ad.1]) ad.2
     · cases ad
   · rename_i e b off m c n hu r7 af
     split at ad
     · rename_i sz a0
       exact h7.val (s:=.v (.ptr b (off+n*sz))) (by simp only[cD,a8,hu,r7,aF.den,af,a0,if_pos ad.1]) ad.2
     · cases ad
   · cases ad
 · rename_i t a x a8
   split at ad
   · rename_i b off n FR a0
     split at ad
     · rename_i aw
       obtain⟨aE,aC,ez,bu,k⟩:=FP (aF.ma ad)
       have ah:vS P o (λy=>(g y).den) h (.aD []) ez:=by
        unfold vS
        rw[a8]
        simp only[FR]
        rw[aE]
        exact⟨by rw[a0,Nat.eq_of_beq_eq_true aw],bu,trivial⟩
       exact h7.val (s:=.v (.aD [])) (Fi ah) k
     · cases ad
   · cases ad
 · rename_i t parts a8
   split at ad
   · exact uj ad
   · split at ad
     · rename_i z ct a0 hu
       split at ad
       · rename_i cs ab ae av
         obtain⟨ds,k⟩:=yO _ av ad
         have hf:=FQ _ _ _ ae ds
         rw[show aF.bQ (z.cells.map ly)=z.cells by rw[lz,List.map_map,show aF.den∘ly=id from funext yM,List.map_id],List.map_map] at hf
         exact h7.val (s:=.ej cs) (by simp only[cD,a8,a0,hu,ab];exact by rw[show(parts.toList.map λp=>(p.1,(g p.2).den))=parts.toList.map ((λp=>(p.1,aF.den p.2))∘ λp=>(p.1,g p.2)) from rfl,hf];rfl) (uh k)
       · cases ad
     · cases ad
 · rename_i t len parts a8
   split at ad
   · exact uj ad
   · obtain⟨e,sz,z,cs,hu,hs,a0,ab,hf,ah,k⟩:=LG ad
     rw[LH] at hf
     exact h7.val (s:=.v (.slice h.n 0 len (.exact len))) (by simp only[cD,a8,hu,hs,a0,ab,hf,newRow,ah];rfl) k
 · rename_i e x a8
   obtain⟨aE,aC,k⟩:=FP (aF.ma ad)
   exact h7.val (s:=.v (.ptr h.n 0)) (by simp only[cD,a8,newRow,aE,aC];rfl) k
 · rename_i c a8
   split at ad
   · rename_i jn
     split at ad
     · rename_i a t a5 a2
       obtain⟨n,e,k⟩:=ad
       have hF:c.args.toList.map (λy=>(g y).den)=[a]:=by
        have:(c.args.toList.map g).map aF.den=[a]:=by rw[a5];rfl
        rw[List.map_map] at this;exact this
       have ah:ov P o (λy=>(g y).den) h (.int .i64 (.ofNat n)):=by
        unfold ov
        rw[a8]
        simp only[jn,hF,a2]
        exact e
       exact h7.val (s:=.v (.int .i64 (.ofNat n))) (tO ah) k
     · exact uj ad
   · exact uj ad
 · exact uj ad
end
end ay
namespace ay
open Go
def keyOf(ir i:Nat)(o:Oper):Nat:=match o.dst with
 |some t=>t
 |none=>3000+50*ir+i
section
variable (P:Program) (need:Nat)
def k7(m:Nat)(env:List aF)(Γ:dc)(loc:List (Nat×Acc))(x:Operand):aF:=match l9 m env Γ (cP P need loc x) with
 |some s=>s
 |none=>.v .bad
def B3(m:Nat)(env:List aF)(Γ:dc)(loc:List (Nat×Acc))(o:Oper):Bool:=o.op.operands.toList.all λx=>(l9 m env Γ (cP P need loc x)).isSome
def B4(eM:Option Bool)(gd:Option (Acc×Bool))(m:Nat)(env:List aF)(Γ:dc)(we wg:List aF->dc->cL):cL:=match gd with
 |none=>we env Γ
 |some (a,b)=>match l9 m env Γ a with
  |none=>bad "guard"
  |some s=>match s with
   |.v (.aD [])=>wg env Γ
   |s=>s.dB eM (sb (v9 m a .jX env) λenv=>nE (ua a .jX Γ) λΓ=>(match b with|true=>we env Γ|false=>wg env Γ)) (sb (v9 m a .jY env) λenv=>nE (ua a .jY Γ) λΓ=>(match b with|true=>wg env Γ|false=>we env Γ))
variable (inR:Bool) (call:aO->List J->aa->ax)
def yP(pl:kN)(key m:Nat)(env:List aF)(Γ:dc)(loc:List (Nat×Acc))(o:Oper)(d:List bC)(q:bG)(h:aa)(K:List aF->dc->pG)(dU:dc->pH):cL:=match o.op with
 |.pick c a b=>match l9 m env Γ (cP P need loc c) with
  |none=>bad "pick"
  |some s=>s.dB (BZ (uc (2000+key) pl)) (sb (v9 m (cP P need loc c) .jX env) λfx=>nE (ua (cP P need loc c) .jX Γ) λcA=>(k7 P need m env Γ loc a).l_ λx=>K fx cA x d q h) (sb (v9 m (cP P need loc c) .jY env) λfx=>nE (ua (cP P need loc c) .jY Γ) λcA=>(k7 P need m env Γ loc b).l_ λx=>K fx cA x d q h)
 |_=>FM P inR call (uc key pl) o (k7 P need m env Γ loc) d q h (K env Γ) (dU Γ)
def yQ(pl:kN)(ir:Nat):List Step->List aF->dc->List bC->bG->aa->(List aF->dc->List bC->bG->aa->cL)->(J->dc->List bC->bG->aa->cL)->cL
 |[],env,Γ,d,q,h,K,_=>K env Γ d q h
 |s::rest,env,Γ,d,q,h,K,dU=>match B3 P need s.m env Γ s.loc s.o with
  |false=>bad ("an operand " ++s.o.pos)
  |true=>B4 (BZ (uc (1000+keyOf ir s.m s.o) pl)) s.guard s.m env Γ
   (λenv Γ=>yP P need inR call pl (keyOf ir s.m s.o) s.m env Γ s.loc s.o d q h (λenv Γ v d q h=>yQ pl ir rest (v::env) Γ d q h K dU) (λΓ v d q h=>dU v Γ d q h))
   (λenv Γ=>yQ pl ir rest (.v (.aD [])::env) Γ d q h K dU)
def uk(t:Nat):dc->dc
 |[]=>[]
 |(u,s)::l=>match Nat.beq t u with
  |true=>uk t l
  |false=>(u,s)::uk t l
def um(m:Nat)(env:List aF)(gD:dc):List (Nat×Acc)->dc->dc
 |[],Γ=>Γ
 |(t,a)::l,Γ=>match Nat.testBit need t with
  |true=>match l9 m env gD a with
   |some s=>(t,s)::uk t (um m env gD l Γ)
   |none=>uk t (um m env gD l Γ)
  |false=>um m env gD l Γ
def yR:List (Nat×Acc)->dc->dc
 |[],Γ=>Γ
 |(t,_)::l,Γ=>uk t (yR l Γ)
abbrev mK:=List (Nat×Nat×aa×Nat)
def iu:mK->nB
 |[]=>[]
 |(e,m,h,_)::l=>(e,m,h)::iu l
def B5(o:Oper)(g:Operand->aF):Bool:=match o.op with
 |.move _|.assign _|.pick .. |.build .. |.nilCheck _|.makeInterface .. |.makeFunc .. |.fieldAddr .. |.field .. |.indexAddr .. |.index .. |.extract .. |.typeAssert .. =>true
 |.unOp .. =>true
 |.binOp _ _ x y _=>match g x,g y with
  |.v (.int _ _),.v (.int _ _)=>true
  |.v (.str _),.v (.str _)=>true
  |x,y=>x.tX&&y.tX
 |.call c=>match c.callee with
  |.builtin .len=>match c.argTypes[0]? with
   |some t=>match P.underlying t with
    |some (.slice _)=>true
    |some .string=>true
    |_=>false
   |none=>false
  |_=>false
 |_=>false
def wh:List aF->cL->cL
 |[],K=>K
 |.o a::l,K=>gq (a.sound=true) (wh l K)
 |s::l,K=>match s.den.sound with
  |true=>wh l K
  |false=>bad "sound"
def FT:aF->cL->cL
 |.o a,K=>gq (a.sound=true) K
 |.jX,K|.jY,K|.lt _ _,K|.le _ _,K|.eq _ _,K|.ck _,K=>K
 |.v a,K=>match a.sound with
  |true=>K
  |false=>bad "sound"
 |.ej l,K=>wh l K
 |.kk l,K=>match jI (aF.bQ l) with
  |true=>K
  |false=>bad "sound"
def wi(s:DStep)(g4:Nat):Option Nat->aa->Nat->mK->List (Option aa)
 |en,h,cu,a9=>
  (match qE s en (iu a9) with
   |true=>[]
   |false=>[match Nat.beq cu g4 with|true=>none|false=>some h])++
  (match a9 with
   |[]=>[]
   |(e,_,an,k8)::rest=>wi s g4 (some e) an k8 rest)
def wj(o:Oper)(g:Operand->J)(v:J)(sd:Bool):List (Option aa)->cL->cL
 |[],K=>K
 |none::l,K=>wj o g v sd l K
 |some h::l,K=>match sd with
  |true=>wj o g v sd l K
  |false=>gq (ov P o g h v) (wj o g v sd l K)
def lA(ops:Array Oper)(n:Nat)(env:List aF)(dJ:List Nat)(Γ:dc)(last:Option Nat)(h:aa)(cu:Nat)(a9:mK):List DStep->cL->cL
 |[],K=>K
 |s::rest,K=>match Nat.blt s.i n,kindOf P s.o.op with
  |true,.pure=>match tZ (n-1-s.i) env,nth (n-1-s.i) dJ with
   |some v,some g4=>match wi s g4 last h cu a9 with
    |[]=>lA ops n env dJ Γ last h cu a9 rest K
    |l=>match v with
     |.v (.aD [])=>match j8 P need ops s.loc s.o with
      |some (a,b)=>match l9 n env Γ a with
       |some (.v (.aD []))=>lA ops n env dJ Γ last h cu a9 rest K
       |some .jX=>match b with
        |false=>lA ops n env dJ Γ last h cu a9 rest K
        |true=>bad "look"
       |some .jY=>match b with
        |true=>lA ops n env dJ Γ last h cu a9 rest K
        |false=>bad "look"
       |_=>bad "look"
      |none=>bad "look"
     |v=>FT v (wj P s.o (λx=>(k7 P need n env Γ s.loc x).den) v.den (B5 P s.o (k7 P need n env Γ s.loc)) l (lA ops n env dJ Γ last h cu a9 rest K))
   |_,_=>bad "look"
  |_,_=>lA ops n env dJ Γ last h cu a9 rest K
def FU(op:Op)(g:Operand->aF)(b:Nat)(K:aF->b3->cL):cL:=match op with
 |.box e x=>(g x).l_ λs=>v_ s (K (.v (.ptr b 0)) (.cells (ud s) e .own 0 0))
 |.makeSlice t l c=>match fF (g l).den with
  |some nt=>ei λz:b3=>gq (KW P t (g l).den (g c).den b=some (.slice b 0 nt (match fF (g c).den with|some c'=>.exact c'|none=>.dead),z)) (K (.v (.slice b 0 nt (match fF (g c).den with|some c'=>.exact c'|none=>.dead))) z)
  |none=>bad "makeSlice"
 |.buildSlice t len parts=>match(nF (parts.toList.map λp=>(p.1,g p.2))).any aF.FK with
  |true=>B0 P t len (parts.toList.map λp=>(p.1,g p.2)) λe cs=>K (.v (.slice b 0 len (.exact len))) (.cells (aF.bQ cs) e .own 0 0)
  |false=>match kb P (.buildSlice t len parts) (λx=>(g x).den) b with
   |some (v,o)=>K (.v v) o
   |none=>bad "alloc"
 |op=>match kb P op (λx=>(g x).den) b with
  |some (v,o)=>K (.v v) o
  |none=>bad "alloc"
abbrev se:=List aF->List Nat->dc->List bC->bG->aa->Nat->mK->cL
def sf(pl:kN)(ir:Nat)(ops:Array Oper)(cF:Nat):List DStep->List aF->List Nat->dc->List bC->bG->aa->Nat->mK->se->(J->se)->cL
 |[],env,dJ,Γ,d,q,h,cu,a9,K,_=>K env dJ Γ d q h cu a9
 |s::rest,env,dJ,Γ,d,q,h,cu,a9,K,dU=>match B3 P need s.i env Γ s.loc s.o with
  |false=>bad ("an operand " ++s.o.pos)
  |true=>B4 (BZ (uc (1000+keyOf ir s.i s.o) pl)) (j8 P need ops s.loc s.o) s.i env Γ
   (λenv Γ=>match kindOf P s.o.op with
    |.alloc=>FU P s.o.op (k7 P need s.i env Γ s.loc) (cF+s.i) λv o=>sf pl ir ops cF rest (v::env) (cu::dJ) Γ d q (h.set (cF+s.i) (some o)) (cu+1) a9 K dU
    |.pure=>yP P need inR call pl (keyOf ir s.i s.o) s.i env Γ s.loc s.o d q h (λenv Γ v _ _ _=>sf pl ir ops cF rest (v::env) (cu::dJ) Γ d q h cu a9 K dU) (λ_ _ _ _ _=>bad "a panic")
    |.ey=>match tL s (iu a9) with
     |false=>bad "order"
     |true=>yP P need inR call pl (keyOf ir s.i s.o) s.i env Γ s.loc s.o d q h (λenv Γ v bx bq an=>sf pl ir ops cF rest (v::env) (cu::dJ) Γ bx bq an (cu+1) ((s.i,s.e9,h,cu)::a9) K dU)
      (λΓ v bx bq an=>match rest.all (λa4=>Nat.testBit a4.e9 s.i) with
       |true=>dU v env dJ Γ bx bq an (cu+1) ((s.i,s.e9,h,cu)::a9)
       |false=>bad "panic"))
   (λenv Γ=>match kindOf P s.o.op with
    |.ey=>match tL s (iu a9) with
     |false=>bad "order"
     |true=>sf pl ir ops cF rest (.v (.aD [])::env) (cu::dJ) Γ d q h cu ((s.i,s.e9,h,cu)::a9) K dU
    |_=>sf pl ir ops cF rest (.v (.aD [])::env) (cu::dJ) Γ d q h cu a9 K dU)
end
end ay
namespace ay
open Go
section
variable {P:Program} {need:Nat} {inR:Bool} {call:aO->List J->aa->ax}
theorem FV{m:Nat}{env:List aF}{Γ:dc}{loc:List (Nat×Acc)}{x:Operand}:(k7 P need m env Γ loc x).den=(hl m (aF.bQ env) (cU Γ) (cP P need loc x)).getD .bad:=by
 rw[<-wa]
 unfold k7
 split<;>rename_i h<;>rw[h]<;>rfl
theorem LJ{m:Nat}{env:List aF}{Γ:dc}{loc:List (Nat×Acc)}{o:Oper}(h:B3 P need m env Γ loc o=true):∀x∈o.op.operands,(hl m (aF.bQ env) (cU Γ) (cP P need loc x)).isSome=true:=by
 intro x ad
 unfold B3 at h
 rw[List.all_eq_true] at h
 have:=h x (by simpa using ad)
 rw[<-wa,Option.isSome_map];exact this
theorem FW{r:aU}{G:Env}(hm:Mod r G){m:Nat}{l:List J}{loc:List (Nat×Acc)}{o:Oper}(h:∀x∈o.op.operands,(hl m l G (cP P need loc x)).isSome=true):∀x∈o.op.operands,d_ m l r (cP P need loc x)=(hl m l G (cP P need loc x)).getD .bad:=by
 intro x ad
 obtain⟨v,aH⟩:=Option.isSome_iff_exists.1 (h x ad)
 rw[wb hm aH,aH];rfl
def oB(m:Nat)(l:List J)(G:Env)(gd:Option (Acc×Bool))(W:Bool):Prop:=match gd with
 |none=>W=true
 |some (a,b)=>∃yS,hl m l G a=some yS/\eH (some (yS,b))=some W
theorem oB.ok{m:Nat}{l:List J}{G:Env}{gd:Option (Acc×Bool)}{W:Bool}(h:oB m l G gd W){r:aU}(hm:Mod r G):eH (gd.map λx=>(d_ m l r x.1,x.2))=some W:=by
 cases gd with
 |none=>cases h;rfl
 |some x=>
  obtain⟨yS,ab,ae⟩:=h
  simp only[Option.map_some,wb hm ab,ae]
theorem oB.more{m:Nat}{l:List J}{G:Env}{gd:Option (Acc×Bool)}{W:Bool}(h:oB m l G gd W)(x:J):oB (m+1) (x::l) G gd W:=by
 cases gd with
 |none=>exact h
 |some y=>
  obtain⟨yS,ab,ae⟩:=h
  exact⟨yS,yN x ab,ae⟩
theorem LK{eM:Option Bool}{gd:Option (Acc×Bool)}{m:Nat}{env:List aF}{Γ:dc}{we wg:List aF->dc->cL}(h:(B4 eM gd m env Γ we wg).p):
  ∃fx cA,aF.bQ fx=aF.bQ env/\cU cA=cU Γ/\fx.length=env.length/\(((we fx cA).p/\oB m (aF.bQ env) (cU Γ) gd true)\/((wg fx cA).p/\oB m (aF.bQ env) (cU Γ) gd false)):=by
 unfold B4 at h
 split at h
 · exact⟨env,Γ,rfl,rfl,rfl,.inl ⟨h,rfl⟩⟩
 · rename_i a b
   split at h
   · cases h
   · rename_i s hs
     have jH:hl m (aF.bQ env) (cU Γ) a=some s.den:=by rw[<-wa,hs];rfl
     split at h
     · exact⟨env,Γ,rfl,rfl,rfl,.inr ⟨h,_,jH,rfl⟩⟩
     · obtain⟨ag,ad⟩:=B2 _ h
       have aq:=aF.pI ag
       rcases ad with⟨a2,au⟩|⟨a2,au⟩
       · rw[a2] at aq
         obtain⟨aE,aC,bu⟩:=wc (x:=.jX) hs aq
         refine⟨_,_,aE,aC,bu,?_⟩
         have au:=oA (uh au)
         cases b with
         |true=>exact .inl ⟨au,_,jH,by rw[aq];rfl⟩
         |false=>exact .inr ⟨au,_,jH,by rw[aq];rfl⟩
       · rw[a2] at aq
         obtain⟨aE,aC,bu⟩:=wc (x:=.jY) hs aq
         refine⟨_,_,aE,aC,bu,?_⟩
         have au:=oA (uh au)
         cases b with
         |true=>exact .inr ⟨au,_,jH,by rw[aq];rfl⟩
         |false=>exact .inl ⟨au,_,jH,by rw[aq];rfl⟩
theorem FX{pl:kN}{key m:Nat}{env:List aF}{Γ:dc}{loc:List (Nat×Acc)}{o:Oper}{d:List bC}{q:bG}{h:aa}{K:List aF->dc->pG}{dU:dc->pH}(ad:(yP P need inR call pl key m env Γ loc o d q h K dU).p):
  ∃fx cA,aF.bQ fx=aF.bQ env/\cU cA=cU Γ/\fx.length=env.length/\h7 (eb P inR call none o (λx=>(hl m (aF.bQ env) (cU Γ) (cP P need loc x)).getD .bad) d q h) (K fx cA) (dU cA):=by
 have ao:(λx=>(hl m (aF.bQ env) (cU Γ) (cP P need loc x)).getD .bad)=λx=>(k7 P need m env Γ loc x).den:=funext λx=>FV.symm
 unfold yP at ad
 split at ad
 · rename_i c a b a8
   split at ad
   · cases ad
   · rename_i s hs
     obtain⟨ag,a6⟩:=B2 _ ad
     have aq:=aF.pI ag
     have BL:(k7 P need m env Γ loc c).den=s.den:=by unfold k7;rw[hs]
     rw[ao]
     rcases a6 with⟨a2,au⟩|⟨a2,au⟩
     · rw[a2] at aq
       obtain⟨aE,aC,bu⟩:=wc (x:=.jX) hs aq
       exact⟨_,_,aE,aC,bu,h7.val (s:=k7 P need m env Γ loc a) (by simp only[cD,a8,BL,aq]) (aF.ma (oA (uh au)))⟩
     · rw[a2] at aq
       obtain⟨aE,aC,bu⟩:=wc (x:=.jY) hs aq
       exact⟨_,_,aE,aC,bu,h7.val (s:=k7 P need m env Γ loc b) (by simp only[cD,a8,BL,aq]) (aF.ma (oA (uh au)))⟩
 · rw[ao]
   exact⟨env,Γ,rfl,rfl,rfl,U0 ad⟩
theorem FY{r:aU}{s:Step}{rest:List Step}{env:List J}{d:List bC}{q:bG}{h:aa}:j9 P need inR call r (s::rest) env d q h=match eb P inR call (s.guard.map λx=>(d_ s.m env r x.1,x.2)) s.o (λx=>d_ s.m env r (cP P need s.loc x)) d q h with
  |.ok v bx bq an=>j9 P need inR call r rest (v::env) bx bq an
  |.bk v bx bq an=>.bk v bx bq an
  |.fail w=>.fail w:=by
 obtain⟨gd,o,loc,m⟩:=s
 cases gd<;>rfl
theorem FZ{pl:kN}{ir:Nat}:∀(l:List Step) (env:List aF) (Γ:dc) (d:List bC) (q:bG) (h:aa) {K:List aF->dc->List bC->bG->aa->cL} {dU:J->dc->List bC->bG->aa->cL},(yQ P need inR call pl ir l env Γ d q h K dU).p->
  (∃fx cA bx bq an,(∀r,Mod r (cU Γ)->j9 P need inR call r l (aF.bQ env) d q h=.ok (aF.bQ fx) bx bq an)/\cU cA=cU Γ/\(K fx cA bx bq an).p)\/∃v cA bx bq an,(∀r,Mod r (cU Γ)->j9 P need inR call r l (aF.bQ env) d q h=.bk v bx bq an)/\cU cA=cU Γ/\(dU v cA bx bq an).p
 |[],env,Γ,d,q,h,K,dU,ad=>.inl ⟨env,Γ,d,q,h,λ_ _=>rfl,rfl,ad⟩
 |s::rest,env,Γ,d,q,h,K,dU,ad=>by
  simp only[yQ] at ad
  split at ad
  · cases ad
  · rename_i au
    have hp:∀r,Mod r (cU Γ)->∀gd,eb P inR call gd s.o (λx=>d_ s.m (aF.bQ env) r (cP P need s.loc x)) d q h=eb P inR call gd s.o (λx=>(hl s.m (aF.bQ env) (cU Γ) (cP P need s.loc x)).getD .bad) d q h:=λr hm gd=>tC (FW hm (LJ au))
    obtain⟨nG,gV,aE,aC,bu,hw⟩:=LK ad
    rcases hw with⟨hw,pJ⟩|⟨hw,pJ⟩
    · obtain⟨oC,hG,f1,f2,f3,a8⟩:=FX hw
      rw[aE,aC] at a8
      rcases a8 with⟨x,d1,aR,ab,he,dO⟩|⟨v,d1,aR,ab,he,dO⟩
      · have bp:=FZ rest (x::oC) hG d1 aR ab dO
        have key:∀r,Mod r (cU Γ)->j9 P need inR call r (s::rest) (aF.bQ env) d q h=j9 P need inR call r rest (aF.bQ (x::oC)) d1 aR ab:=λr hm=>by
         rw[FY,hp r hm,vW (pJ.ok hm),he]
         simp only[aF.bQ,f1,aE]
        rw[f2,aC] at bp
        rcases bp with⟨fx,cA,bx,bq,an,i1,i2,i3⟩|⟨v,cA,bx,bq,an,i1,i2,i3⟩
        · exact .inl ⟨fx,cA,bx,bq,an,λr hm=>(key r hm).trans (i1 r hm),i2,i3⟩
        · exact .inr ⟨v,cA,bx,bq,an,λr hm=>(key r hm).trans (i1 r hm),i2,i3⟩
      · refine .inr ⟨v,hG,d1,aR,ab,λr hm=>?_,f2.trans aC,dO⟩
        rw[FY,hp r hm,vW (pJ.ok hm),he]
    · have bp:=FZ rest (.v (.aD [])::nG) gV d q h hw
      have key:∀r,Mod r (cU Γ)->j9 P need inR call r (s::rest) (aF.bQ env) d q h=j9 P need inR call r rest (aF.bQ (.v (.aD [])::nG)) d q h:=λr hm=>by
       rw[FY,yw (pJ.ok hm)]
       simp only[aF.bQ,aF.den,aE]
      rw[aC] at bp
      rcases bp with⟨fx,cA,bx,bq,an,i1,i2,i3⟩|⟨v,cA,bx,bq,an,i1,i2,i3⟩
      · exact .inl ⟨fx,cA,bx,bq,an,λr hm=>(key r hm).trans (i1 r hm),i2,i3⟩
      · exact .inr ⟨v,cA,bx,bq,an,λr hm=>(key r hm).trans (i1 r hm),i2,i3⟩
theorem yT(t:Nat):∀Γ:dc,cU (uk t Γ)=del t (cU Γ)
 |[]=>rfl
 |(u,s)::l=>by
  simp only[uk,cU,del]
  cases Nat.beq t u with
  |true=>exact yT t l
  |false=>simp only[cU];rw[yT t l]
theorem F0{m:Nat}{env:List aF}{gm:aU}{gD:dc}(hm:Mod gm (cU gD)):∀(l:List (Nat×Acc)) (r:aU) (Γ:dc),Mod r (cU Γ)->Mod (qg need m (aF.bQ env) gm l r) (cU (um need m env gD l Γ))
 |[],r,Γ,h=>h
 |(t,a)::l,r,Γ,h=>by
  have bp:=F0 (m:=m) (env:=env) hm l r Γ h
  simp only[qg,um]
  cases Nat.testBit need t with
  |false=>exact bp
  |true=>
   cases ao:l9 m env gD a with
   |some s=>
    have:hl m (aF.bQ env) (cU gD) a=some s.den:=by rw[<-wa,ao];rfl
    simp only[cU,yT]
    rw[wb hm this];exact bp.put t s.den
   |none=>simp only[yT];exact bp.del t _
theorem F1:∀(l:List (Nat×Acc)) (r:aU) (Γ:dc),Mod r (cU Γ)->Mod (vm l r) (cU (yR l Γ))
 |[],r,Γ,h=>h
 |(t,a)::l,r,Γ,h=>by simp only[yR,yT];exact(F1 l r Γ h).del t _
theorem LL:∀(ops:List Oper) (n:Nat) (loc:List (Nat×Acc)) (gH:List Nat) (k:Nat) (s:DStep),(fk ops n loc gH)[k]? =some s->s.i=n+k
 |[],n,loc,gH,k,s,h=>by simp[fk] at h
 |o::l,n,loc,gH,0,s,h=>by simp only[fk,List.getElem?_cons_zero,Option.some.injEq] at h;rw[<-h];rfl
 |o::l,n,loc,gH,k+1,s,h=>by
  simp only[fk,List.getElem?_cons_succ] at h
  have:=LL l (n+1) _ _ k s h
  omega
def wk(P:Program)(need:Nat)(ops:Array Oper)(s:DStep)(n:Nat)(l:List J)(G:Env)(dJ:List Nat)(H:Nat->aa):Prop:=s.i<n/\(kindOf P s.o.op=.pure->(∀x∈s.o.op.operands,(hl n l G (cP P need s.loc x)).isSome=true)/\∀v g4,nth (n-1-s.i) l=some v->nth (n-1-s.i) dJ=some g4->oB n l G (j8 P need ops s.loc s.o) false\/(oB n l G (j8 P need ops s.loc s.o) true/\∃an,cD P s.o (λx=>(hl n l G (cP P need s.loc x)).getD .bad) (H g4)=.val v an))
theorem U1{α:Type}{n i:Nat}(h:i<n)(x:α)(l:List α):nth (n+1-1-i) (x::l)=nth (n-1-i) l:=by
 have:n+1-1-i=(n-1-i)+1:=by omega
 rw[this];rfl
theorem LM{α:Type}:∀(n:Nat) (l:List α) (x:α),nth n l=some x->x∈l
 |0,[],_,h=>by cases h
 |_+1,[],_,h=>by cases h
 |0,y::l,x,h=>by cases h;exact List.mem_cons_self
 |n+1,y::l,x,h=>List.mem_cons_of_mem _ (LM n l x h)
theorem wk.more{ops:Array Oper}{s:DStep}{n:Nat}{l:List J}{G:Env}{dJ:List Nat}{H aZ:Nat->aa}(h:wk P need ops s n l G dJ H)(x:J)(y:Nat)(dG:∀g4∈dJ,aZ g4=H g4):wk P need ops s (n+1) (x::l) G (y::dJ) aZ:=by
 obtain⟨ab,ae⟩:=h
 refine⟨by omega,λau=>?_⟩
 obtain⟨bz,bA⟩:=ae au
 refine⟨λz a0=>?_,λv g4 aH mb=>?_⟩
 · obtain⟨w,hw⟩:=Option.isSome_iff_exists.1 (bz z a0)
   rw[yN x hw];rfl
 · rw[U1 ab] at aH mb
   rcases bA v g4 aH mb with e|⟨dW,an,e⟩
   · exact .inl (e.more x)
   · have U2:=LM _ _ _ mb
     refine .inr ⟨dW.more x,an,?_⟩
     rw[dG g4 U2,<-e]
     exact yd s.o _ λz a0=>by
      obtain⟨w,hw⟩:=Option.isSome_iff_exists.1 (bz z a0)
      rw[yN x hw,hw]
end
end ay
namespace ay
open Go
section
variable {P:Program} {need:Nat} {inR:Bool} {call:aO->List J->aa->ax}
theorem B6:∀l:List aF,(aF.bQ l).length=l.length
 |[]=>rfl
 |_::l=>by simp only[aF.bQ,List.length_cons,B6 l]
structure mL(P:Program)(need:Nat)(ops:Array Oper)(pre:List DStep)(env:List aF)(dJ:List Nat)(Γ:dc)(h:aa)(cu:Nat)(a9:mK)(H:Nat->aa):Prop where
 cur:H cu=h
 le:∀g4∈dJ,g4<=cu
 st:∀z∈a9,z.2.2.2<=cu/\H z.2.2.2=z.2.2.1
 pl:pre.length=env.length
 seen:∀s∈pre,wk P need ops s env.length (aF.bQ env) (cU Γ) dJ H
theorem mL.push{ops:Array Oper}{pre:List DStep}{env fx:List aF}{dJ:List Nat}{Γ cA:dc}{h an:aa}{cu k8:Nat}{a9 sg:mK}{H aZ:Nat->aa}(w:mL P need ops pre env dJ Γ h cu a9 H){s:DStep}{v:aF}(af:s.i=env.length)(aE:aF.bQ fx=aF.bQ env)(aC:cU cA=cU Γ)(bu:fx.length=env.length)
  (dG:∀k,k<=cu->aZ k=H k)(aH:cu<=k8)(ah:aZ k8=an)(hs:∀z∈sg,z.2.2.2<=k8/\aZ z.2.2.2=z.2.2.1)
  (aY:kindOf P s.o.op=.pure->(∀x∈s.o.op.operands,(hl s.i (aF.bQ env) (cU Γ) (cP P need s.loc x)).isSome=true)/\(oB s.i (aF.bQ env) (cU Γ) (j8 P need ops s.loc s.o) false\/(oB s.i (aF.bQ env) (cU Γ) (j8 P need ops s.loc s.o) true/\∃g5,cD P s.o (λx=>(hl s.i (aF.bQ env) (cU Γ) (cP P need s.loc x)).getD .bad) h=.val v.den g5))):
  mL P need ops (pre++[s]) (v::fx) (cu::dJ) cA an k8 sg aZ:=by
 refine⟨ah,λg4 mb=>?_,hs,by simp[w.pl,bu],λz a0=>?_⟩
 · rcases List.mem_cons.1 mb with rfl|mb
   · exact aH
   · exact Nat.le_trans (w.le g4 mb) aH
 · rw[List.length_cons,bu,aC]
   simp only[aF.bQ,aE]
   rcases List.mem_append.1 a0 with a0|a0
   · exact(w.seen z a0).more _ _ λg4 mb=>dG g4 (w.le g4 mb)
   · obtain rfl:z=s:=by simpa using a0
     refine⟨by omega,λau=>?_⟩
     obtain⟨bz,bA⟩:=aY au
     rw[af] at bz bA
     refine⟨λx ad=>?_,λu g4 hu mb=>?_⟩
     · obtain⟨y,a6⟩:=Option.isSome_iff_exists.1 (bz x ad)
       rw[yN _ a6];rfl
     · have h0:env.length+1-1-z.i=0:=by omega
       rw[h0] at hu mb
       cases hu;cases mb
       rcases bA with bA|⟨te,g5,bA⟩
       · exact .inl (bA.more _)
       · refine .inr ⟨te.more _,g5,?_⟩
         rw[dG cu (Nat.le_refl _),w.cur,<-bA]
         exact yd _ _ λx ad=>by
          obtain⟨y,a6⟩:=Option.isSome_iff_exists.1 (bz x ad)
          rw[yN _ a6,a6]
theorem yU{ops:Array Oper}{r:aU}{n:Nat}{env:List J}{s:DStep}:g0 P need ops r n env s=(j8 P need ops s.loc s.o).map λx=>(d_ n env r x.1,x.2):=by
 unfold g0
 cases j8 P need ops s.loc s.o<;>rfl
def LN:fj->Prop
 |.val _ _=>True
 |.bk _ _=>True
 |.fail _=>True
 |_=>False
theorem U3{o:Oper}{g:Operand->J}{H:aa}(au:kindOf P o.op=.pure):LN (cD P o g H):=by
 have g2:∀(w:String) (x:Option J),LN (fX H w x):=λw x=>by cases x<;>trivial
 obtain⟨dst,op,type,pos,after,guard⟩:=o
 cases op<;>simp only[kindOf] at au<;>(try (cases au;done))<;>unfold cD<;>simp only
 case binOp=>exact g2 _ _
 case slice=>exact g2 _ _
 case lookup=>exact g2 _ _
 case convert s d x=>
  have dK:∀e,P.underlying d≠some (.slice e):=λe he=>by rw[he] at au;cases au
  unfold ea
  repeat' (first|trivial|exact absurd (by assumption) (dK _)|split)
 case call c=>
  cases ah:c.callee with
  |value f=>rw[ah] at au;cases au
  |invoke r n=>rw[ah] at au;cases au
  |builtin b=>
   rw[ah] at au
   cases b<;>simp only at au<;>(try (cases au;done))<;>simp only[iD]<;>repeat' (first|trivial|exact g2 _ _|split)
 all_goals repeat' (first|trivial|exact g2 _ _|split)
theorem U4{o:Oper}{g:Operand->J}{d d1:List bC}{q aR:bG}{h ab:aa}{v:J}(au:kindOf P o.op=.pure)(e:eb P inR call none o g d q h=.ok v d1 aR ab):∃an,cD P o g h=.val v an:=by
 have aH:=U3 (P:=P) (g:=g) (H:=h) au
 unfold eb at e
 simp only[eH] at e
 cases a8:cD P o g h<;>rw[a8] at e aH<;>first|(exact aH.elim)|(cases e;done)|(cases e;exact⟨_,rfl⟩)
theorem U5{op:Op}{g:Operand->aF}{b:Nat}{K:aF->b3->cL}(h:(FU P op g b K).p):∃s o,kb P op (λx=>(g x).den) b=some (aF.den s,o)/\(K s o).p:=by
 unfold FU at h
 split at h
 · rename_i e x
   obtain⟨aE,aC,k⟩:=FP (aF.ma h)
   exact⟨_,_,by simp only[kb,aE,aC];rfl,k⟩
 · rename_i t l c
   split at h
   · obtain⟨z,a0,k⟩:=h
     exact⟨_,_,KY (op:=.makeSlice t l c) (v:=aF.den (.v _)) a0,k⟩
   · cases h
 · rename_i t len parts
   split at h
   · obtain⟨e,sz,z,cs,hu,hs,a0,ab,hf,ah,k⟩:=LG h
     rw[LH] at hf
     exact⟨.v _,_,by simp only[kb,hu,hs,a0,ab,hf,ah];rfl,k⟩
   · split at h
     · rename_i v o aH
       exact⟨.v v,o,aH,h⟩
     · cases h
 · split at h
   · rename_i v o aH
     exact⟨.v v,o,aH,h⟩
   · cases h
def qJ(H:Nat->aa)(k:Nat)(h:aa)(j:Nat):aa:=if j=k then h else H j
def pK(P:Program)(need:Nat)(inR:Bool)(call:aO->List J->aa->ax)(ops:Array Oper)(cF:Nat)(full l:List DStep)(env:List aF)(G:Env)(d:List bC)(q:bG)(h:aa)(a9:mK)(K:se)(dU:J->se):Prop:=
 (∃fx sh cA bx bq an k8 sg aZ,(∀r,Mod r G->gw P need inR call ops r cF l (aF.bQ env) d q h (iu a9)=.ok (aF.bQ fx) bx bq an (iu sg))/\cU cA=G/\mL P need ops full fx sh cA an k8 sg aZ/\(K fx sh cA bx bq an k8 sg).p)\/
 ∃v fx sh cA bx bq an k8 e m h0 wm r4 aZ yV,(∀r,Mod r G->gw P need inR call ops r cF l (aF.bQ env) d q h (iu a9)=.bk v (aF.bQ fx) bx bq an (iu ((e,m,h0,wm)::r4)))/\cU cA=G/\mL P need ops yV fx sh cA h0 wm r4 aZ/\(∃post,full=yV++post)/\(dU v fx sh cA bx bq an k8 ((e,m,h0,wm)::r4)).p
theorem pK.trans{ops:Array Oper}{cF:Nat}{full l bT:List DStep}{env oC:List aF}{G:Env}{d d2:List bC}{q aT:bG}{h ae:aa}{a9 LO:mK}{K:se}{dU:J->se}(au:∀r,Mod r G->gw P need inR call ops r cF l (aF.bQ env) d q h (iu a9)=gw P need inR call ops r cF bT (aF.bQ oC) d2 aT ae (iu LO))(he:pK P need inR call ops cF full bT oC G d2 aT ae LO K dU):pK P need inR call ops cF full l env G d q h a9 K dU:=by
 rcases he with⟨ds,eu,jj,pL,wo,yW,wq,si,yX,bj,bo,dj,lB⟩|⟨ds,eu,jj,pL,wo,yW,wq,si,yX,bh,bf,dM,jZ,oD,j0,bj,bo,dj,lB,U6⟩
 · exact .inl ⟨ds,eu,jj,pL,wo,yW,wq,si,yX,λr hm=>(au r hm).trans (bj r hm),bo,dj,lB⟩
 · exact .inr ⟨ds,eu,jj,pL,wo,yW,wq,si,yX,bh,bf,dM,jZ,oD,j0,λr hm=>(au r hm).trans (bj r hm),bo,dj,lB,U6⟩
theorem uo{ops:Array Oper}{r:aU}{cF:Nat}{s:DStep}{rest:List DStep}{env:List J}{d:List bC}{q:bG}{h:aa}{a9:nB}:gw P need inR call ops r cF (s::rest) env d q h a9=
  match kindOf P s.o.op with
  |.alloc=>match eH (g0 P need ops r s.i env s) with
   |none=>.fail ("guard " ++s.o.pos)
   |some false=>gw P need inR call ops r cF rest (.aD []::env) d q h a9
   |some true=>match kb P s.o.op (λx=>d_ s.i env r (cP P need s.loc x)) (cF+s.i) with
    |some (v,o)=>gw P need inR call ops r cF rest (v::env) d q (h.set (cF+s.i) (some o)) a9
    |none=>.fail ("alloc " ++s.o.pos)
  |.pure=>match eb P inR call (g0 P need ops r s.i env s) s.o (λx=>d_ s.i env r (cP P need s.loc x)) d q h with
   |.ok v _ _ _=>gw P need inR call ops r cF rest (v::env) d q h a9
   |.bk _ _ _ _=>.fail ("pure " ++s.o.pos)
   |.fail w=>.fail w
  |.ey=>match tL s a9 with
   |false=>.fail ("order " ++s.o.pos)
   |true=>match eb P inR call (g0 P need ops r s.i env s) s.o (λx=>d_ s.i env r (cP P need s.loc x)) d q h with
    |.ok v bx bq an=>gw P need inR call ops r cF rest (v::env) bx bq an ((s.i,s.e9,h)::a9)
    |.bk v bx bq an=>match rest.all (λa4=>Nat.testBit a4.e9 s.i) with
     |true=>.bk v env bx bq an ((s.i,s.e9,h)::a9)
     |false=>.fail ("panic " ++s.o.pos)
    |.fail w=>.fail w:=by
 cases a9<;>rfl
theorem uq{pl:kN}{ir:Nat}{ops:Array Oper}{cF:Nat}{full:List DStep}(pM:∀(k:Nat) (s:DStep),full[k]? =some s->s.i=k){K:se}{dU:J->se}:∀(l pre:List DStep) (env:List aF) (dJ:List Nat) (Γ:dc) (d:List bC) (q:bG) (h:aa) (cu:Nat) (a9:mK) (H:Nat->aa),full=pre++l->mL P need ops pre env dJ Γ h cu a9 H->(sf P need inR call pl ir ops cF l env dJ Γ d q h cu a9 K dU).p->pK P need inR call ops cF full l env (cU Γ) d q h a9 K dU
 |[],pre,env,dJ,Γ,d,q,h,cu,a9,H,hf,w,ad=>by
  rw[List.append_nil] at hf
  subst hf
  exact .inl ⟨env,dJ,Γ,d,q,h,cu,a9,H,λ_ _=>rfl,rfl,w,ad⟩
 |s::rest,pre,env,dJ,Γ,d,q,h,cu,a9,H,hf,w,ad=>by
  have af:s.i=env.length:=by
   rw[<-w.pl]
   exact pM pre.length s (by rw[hf];simp)
  have wu:full=(pre++[s])++rest:=by rw[hf];simp
  simp only[sf] at ad
  split at ad
  · cases ad
  · rename_i au
    have ur:=LJ au
    have ao:∀r,Mod r (cU Γ)->∀x∈s.o.op.operands,d_ s.i (aF.bQ env) r (cP P need s.loc x)=(hl s.i (aF.bQ env) (cU Γ) (cP P need s.loc x)).getD .bad:=λr hm=>FW hm ur
    have hp:∀r,Mod r (cU Γ)->∀gd,eb P inR call gd s.o (λx=>d_ s.i (aF.bQ env) r (cP P need s.loc x)) d q h=eb P inR call gd s.o (λx=>(hl s.i (aF.bQ env) (cU Γ) (cP P need s.loc x)).getD .bad) d q h:=λr hm gd=>tC (ao r hm)
    obtain⟨nG,gV,aE,aC,bu,hw⟩:=LK ad
    have kK:∀z∈a9,z.2.2.2<=cu/\H z.2.2.2=z.2.2.1:=w.st
    rcases hw with⟨hw,pJ⟩|⟨hw,pJ⟩
    · have sj:∀r,Mod r (cU Γ)->eH (g0 P need ops r s.i (aF.bQ env) s)=some true:=λr hm=>by rw[yU];exact pJ.ok hm
      split at hw
      · rename_i hk
        obtain⟨v,o,a5,dO⟩:=U5 hw
        have U7:kb P s.o.op (λx=>(hl s.i (aF.bQ env) (cU Γ) (cP P need s.loc x)).getD .bad) (cF+s.i)=some (v.den,o):=by
         rw[<-a5];congr 1;exact funext λx=>by rw[FV,aE,aC]
        have cp:mL P need ops (pre++[s]) (v::nG) (cu::dJ) gV (h.set (cF+s.i) (some o)) (cu+1) a9 (qJ H (cu+1) (h.set (cF+s.i) (some o))):=
         w.push af aE aC bu (λk au=>by unfold qJ;rw[if_neg (by omega)]) (by omega) (by unfold qJ;rw[if_pos rfl]) (λz a0=>by
          obtain⟨dI,eS⟩:=kK z a0
          exact⟨by omega,by unfold qJ;rw[if_neg (by omega)];exact eS⟩) (λaY=>by rw[hk] at aY;cases aY)
        have bp:=uq pM rest (pre++[s]) (v::nG) (cu::dJ) gV d q _ (cu+1) a9 _ wu cp dO
        rw[aC] at bp
        refine pK.trans (λr hm=>?_) bp
        rw[uo,hk]
        simp only[sj r hm]
        rw[ye _ _ (ao r hm),U7]
        simp only[aF.bQ,aE]
      · rename_i hk
        obtain⟨oC,hG,f1,f2,f3,a8⟩:=FX hw
        rw[aE,aC] at a8
        rcases a8 with⟨x,d1,aR,ab,he,dO⟩|⟨v,d1,aR,ab,he,dO⟩
        · have gK:=U4 hk he
          have cp:mL P need ops (pre++[s]) (x::oC) (cu::dJ) hG h cu a9 H:=
           w.push af (f1.trans aE) (f2.trans aC) (f3.trans bu) (λk au=>rfl) (Nat.le_refl _) w.cur kK (λ_=>⟨ur,.inr ⟨pJ,gK⟩⟩)
          have bp:=uq pM rest (pre++[s]) (x::oC) (cu::dJ) hG d q h cu a9 H wu cp dO
          rw[f2,aC] at bp
          refine pK.trans (λr hm=>?_) bp
          rw[uo,hk]
          simp only
          rw[hp r hm,vW (sj r hm),he]
          simp only[aF.bQ,f1,aE]
        · cases dO
      · rename_i hk
        split at hw
        · cases hw
        · rename_i lr
          obtain⟨oC,hG,f1,f2,f3,a8⟩:=FX hw
          rw[aE,aC] at a8
          rcases a8 with⟨x,d1,aR,ab,he,dO⟩|⟨v,d1,aR,ab,he,dO⟩
          · have cp:mL P need ops (pre++[s]) (x::oC) (cu::dJ) hG ab (cu+1) ((s.i,s.e9,h,cu)::a9) (qJ H (cu+1) ab):=
              w.push af (f1.trans aE) (f2.trans aC) (f3.trans bu) (λk au=>by unfold qJ;rw[if_neg (by omega)]) (by omega) (by unfold qJ;rw[if_pos rfl]) (λz a0=>by
               rcases List.mem_cons.1 a0 with rfl|a0
               · exact⟨by simp,by unfold qJ;rw[if_neg (by simp)];exact w.cur⟩
               · obtain⟨dI,eS⟩:=kK z a0
                 exact⟨by omega,by unfold qJ;rw[if_neg (by omega)];exact eS⟩) (λaY=>by rw[hk] at aY;cases aY)
            have bp:=uq pM rest (pre++[s]) (x::oC) (cu::dJ) hG d1 aR ab (cu+1) _ _ wu cp dO
            rw[f2,aC] at bp
            refine pK.trans (λr hm=>?_) bp
            rw[uo,hk]
            simp only[lr]
            rw[hp r hm,vW (sj r hm),he]
            simp only[aF.bQ,f1,aE,iu]
          · split at dO
            · rename_i fI
              refine .inr ⟨v,nG,dJ,hG,d1,aR,ab,cu+1,s.i,s.e9,h,cu,a9,H,pre,λr hm=>?_,f2.trans aC,?_,⟨_,hf⟩,dO⟩
              · rw[uo,hk]
                simp only[lr]
                rw[hp r hm,vW (sj r hm),he]
                simp only[fI,iu,aE]
              · exact⟨w.cur,w.le,w.st,w.pl.trans bu.symm,by rw[f2,aC,aE,bu];exact w.seen⟩
            · cases dO
    · have sj:∀r,Mod r (cU Γ)->eH (g0 P need ops r s.i (aF.bQ env) s)=some false:=λr hm=>by rw[yU];exact pJ.ok hm
      cases hk:kindOf P s.o.op with
      |ey=>
       rw[hk] at hw
       simp only at hw
       split at hw
       · cases hw
       · rename_i lr
         have cp:mL P need ops (pre++[s]) (.v (.aD [])::nG) (cu::dJ) gV h cu ((s.i,s.e9,h,cu)::a9) H:=
          w.push af aE aC bu (λk au=>rfl) (Nat.le_refl _) w.cur (λz a0=>by
           rcases List.mem_cons.1 a0 with rfl|a0
           · exact⟨Nat.le_refl _,w.cur⟩
           · exact kK z a0) (λaY=>by rw[hk] at aY;cases aY)
         have bp:=uq pM rest (pre++[s]) (.v (.aD [])::nG) (cu::dJ) gV d q h cu _ H wu cp hw
         rw[aC] at bp
         refine pK.trans (λr hm=>?_) bp
         rw[uo,hk]
         simp only[lr]
         rw[yw (sj r hm)]
         simp only[aF.bQ,aF.den,aE,iu]
      |alloc=>
       rw[hk] at hw
       simp only at hw
       have cp:mL P need ops (pre++[s]) (.v (.aD [])::nG) (cu::dJ) gV h cu a9 H:=
        w.push af aE aC bu (λk au=>rfl) (Nat.le_refl _) w.cur kK (λaY=>by rw[hk] at aY;cases aY)
       have bp:=uq pM rest (pre++[s]) (.v (.aD [])::nG) (cu::dJ) gV d q h cu a9 H wu cp hw
       rw[aC] at bp
       refine pK.trans (λr hm=>?_) bp
       rw[uo,hk]
       simp only[sj r hm]
       simp only[aF.bQ,aF.den,aE]
      |pure=>
       rw[hk] at hw
       simp only at hw
       have cp:mL P need ops (pre++[s]) (.v (.aD [])::nG) (cu::dJ) gV h cu a9 H:=
        w.push af aE aC bu (λk au=>rfl) (Nat.le_refl _) w.cur kK (λ_=>⟨ur,.inl pJ⟩)
       have bp:=uq pM rest (pre++[s]) (.v (.aD [])::nG) (cu::dJ) gV d q h cu a9 H wu cp hw
       rw[aC] at bp
       refine pK.trans (λr hm=>?_) bp
       rw[uo,hk]
       simp only
       rw[yw (sj r hm)]
       simp only[aF.bQ,aF.den,aE]
end
end ay
namespace ay
open Go
section
variable {P:Program} {need:Nat} {inR:Bool} {call:aO->List J->aa->ax}
theorem U8{o:Oper}{g:Operand->aF}(aw:B5 P o g=true){h ab:aa}{v:J}(e:cD P o (λx=>(g x).den) h=.val v ab)(an:aa):∃ae,cD P o (λx=>(g x).den) an=.val v ae:=by
 have g2:∀{w:String} {x:Option J},fX h w x=.val v ab->∃ae,fX an w x=.val v ae:=λ{w x} e=>by
  cases x with
  |none=>cases e
  |some y=>cases e;exact⟨_,rfl⟩
 obtain⟨dst,op,type,pos,after,guard⟩:=o
 cases op<;>simp only[B5] at aw<;>(try (cases aw;done))<;>unfold cD at e⊢ <;>simp only at e⊢
 case binOp op t x y yt=>
  split at aw
  · rename_i k a ew b ad a6
    rw[ad,a6] at e⊢
    simp only[aF.den,er] at e⊢
    exact g2 e
  · rename_i a b ad a6
    rw[ad,a6] at e⊢
    simp only[aF.den,er] at e⊢
    exact g2 e
  · rw[Bool.and_eq_true] at aw
    rw[aF.pI aw.1,aF.pI aw.2] at e⊢
    have aj:er P an op t x y (.bool (g x).kM) (.bool (g y).kM)=er P h op t x y (.bool (g x).kM) (.bool (g y).kM):=by
     simp only[er,ic]
    rw[aj];exact g2 e
 case call c=>
  split at aw
  · rename_i ah
    rw[ah] at e⊢
    simp only[iD] at e⊢
    split at aw
    · rename_i t a2
      rw[a2] at e⊢
      cases hF:c.args.toList.map λx=>(g x).den with
      |nil=>rw[hF] at e;cases e
      |cons x l=>
       rw[hF] at e
       cases l with
       |nil=>
        simp only at e⊢
        split at aw
        · rename_i el hu
          simp only[cO,hu] at e⊢
          cases x<;>simp only at e⊢ <;>exact g2 e
        · rename_i hu
          simp only[cO,hu] at e⊢
          cases x<;>simp only at e⊢ <;>exact g2 e
        · cases aw
       |cons y l=>
        cases l with
        |nil=>simp only at e;cases e
        |cons z l=>simp only at e;cases e
    · cases aw
  · cases aw
 case typeAssert=>repeat' (first|contradiction|exact g2 e|(cases e;done)|(cases e;exact⟨_,rfl⟩)|(cases e;simp_all;done)|split at e)
 all_goals repeat' (first|contradiction|exact g2 e|(cases e;exact⟨_,rfl⟩)|(rw[if_pos (by assumption)];first|exact g2 e|(cases e;exact⟨_,rfl⟩))|(cases e;done)|split at e)
theorem LP{K:cL}:∀(l:List aF),(wh l K).p->jI (aF.bQ l)=true/\K.p
 |[],h=>⟨rfl,h⟩
 |s::l,h=>by
  have key:s.den.sound=true/\(wh l K).p:=by
   cases s<;>simp only[wh] at h<;>first|exact h|(split at h<;>first|exact⟨by assumption,h⟩|cases h)
  obtain⟨bz,bA⟩:=LP l key.2
  exact⟨by simp only[aF.bQ,jI,key.1,bz,Bool.and_true],bA⟩
theorem LQ{s:aF}{K:cL}(h:(FT s K).p):s.den.sound=true/\K.p:=by
 cases s<;>simp only[FT] at h<;>first|exact⟨rfl,h⟩|exact h|skip
 all_goals first
  |exact LP _ h
  |(split at h
    · rename_i hs;exact⟨hs,h⟩
    · cases h)
theorem yY{o:Oper}{g:Operand->J}{v:J}{sd:Bool}{K:cL}:∀(l:List (Option aa)),(wj P o g v sd l K).p->K.p/\(sd=false->∀h,some h∈l->ov P o g h v)
 |[],h=>⟨h,λ_ _ hm=>by cases hm⟩
 |none::l,h=>by
  obtain⟨ab,ae⟩:=yY l h
  exact⟨ab,λaJ an hm=>by
   rcases List.mem_cons.1 hm with e|hm
   · cases e
   · exact ae aJ an hm⟩
 |some x::l,h=>by
  simp only[wj] at h
  cases sd with
  |true=>
   obtain⟨ab,ae⟩:=yY l h
   exact⟨ab,λaJ=>by cases aJ⟩
  |false=>
   obtain⟨h0,h⟩:=h
   obtain⟨ab,ae⟩:=yY l h
   exact⟨ab,λaJ an hm=>by
    rcases List.mem_cons.1 hm with e|hm
    · cases e;exact h0
    · exact ae aJ an hm⟩
theorem LR{ops:Array Oper}{r:aU}{n:Nat}{env:List J}{s:DStep}{v:J}{g4:Nat}{H:Nat->aa}:∀(a9:mK) (en:Option Nat) (h:aa) (cu:Nat),H cu=h->(∀z∈a9,H z.2.2.2=z.2.2.1)->(∀o∈wi s g4 en h cu a9,lT P need ops r n env s v (match o with|none=>H g4|some h=>h)=true)->k0 P need ops r n env s v en h (iu a9)=true
 |[],en,h,cu,aj,hs,aw=>by
  simp only[iu]
  rw[BM]
  simp only[wi] at aw
  cases ag:qE s en [] with
  |true=>rfl
  |false=>
   rw[show qE s en (iu [])=false from ag] at aw
   simp only[Bool.and_true]
   cases aH:Nat.beq cu g4 with
   |true=>
    have:=aw none (by rw[aH];simp)
    obtain rfl:=Nat.eq_of_beq_eq_true aH
    rw[<-aj];exact this
   |false=>exact aw (some h) (by rw[aH];simp)
 |(e,m,an,k8)::rest,en,h,cu,aj,hs,aw=>by
  simp only[iu]
  rw[BM]
  simp only[wi] at aw
  have bp:=LR (ops:=ops) (r:=r) (n:=n) (env:=env) (v:=v) rest (some e) an k8 (hs _ List.mem_cons_self) (λz a0=>hs z (List.mem_cons_of_mem _ a0)) λo a8=>aw o (List.mem_append.2 (.inr a8))
  simp only[]
  rw[bp,Bool.and_true]
  cases ag:qE s en ((e,m,an)::iu rest) with
  |true=>rfl
  |false=>
   rw[show qE s en (iu ((e,m,an,k8)::rest))=false from ag] at aw
   simp only
   cases aH:Nat.beq cu g4 with
   |true=>
    have:=aw none (List.mem_append.2 (.inl (by rw[aH];simp)))
    obtain rfl:=Nat.eq_of_beq_eq_true aH
    rw[<-aj];exact this
   |false=>exact aw (some h) (List.mem_append.2 (.inl (by rw[aH];simp)))
theorem F2{ops:Array Oper}{r:aU}{n:Nat}{env:List aF}{dJ:List Nat}{Γ:dc}(hm:Mod r (cU Γ)){last:Option Nat}{h:aa}{cu:Nat}{a9:mK}{H:Nat->aa}(dG:H cu=h)(cr:∀z∈a9,H z.2.2.2=z.2.2.1){K:cL}:∀(l:List DStep),(∀s∈l,s.i<n->wk P need ops s n (aF.bQ env) (cU Γ) dJ H)->(lA P need ops n env dJ Γ last h cu a9 l K).p->lk P need ops r n (aF.bQ env) last h (iu a9) l=true
 |[],_,_=>rfl
 |s::rest,hs,ad=>by
  simp only[lk]
  simp only[lA] at ad
  have AI:=λ(k:(lA P need ops n env dJ Γ last h cu a9 rest K).p)=>F2 hm dG cr rest (λz a0=>hs z (List.mem_cons_of_mem _ a0)) k
  split at ad
  · rename_i ag hk
    have af:s.i<n:=by simpa using ag
    obtain⟨_,U9⟩:=hs s List.mem_cons_self af
    obtain⟨ur,nv⟩:=U9 hk
    rw[ag,hk]
    simp only
    split at ad
    · rename_i v g4 aH mb
      have LS:nth (n-1-s.i) (aF.bQ env)=some v.den:=Ly _ _ _ aH
      rw[LS]
      simp only[Option.getD_some]
      have fin:∀(au:(lA P need ops n env dJ Γ last h cu a9 rest K).p),(∀o∈wi s g4 last h cu a9,lT P need ops r n (aF.bQ env) s v.den (match o with|none=>H g4|some h=>h)=true)->(k0 P need ops r n (aF.bQ env) s v.den last h (iu a9)&&lk P need ops r n (aF.bQ env) last h (iu a9) rest)=true:=λau a8=>by
       rw[AI au,Bool.and_true]
       exact LR a9 last h cu dG cr a8
      split at ad
      · rename_i tu
        exact fin ad λo a8=>by rw[tu] at a8;cases a8
      · split at ad
        ·
         have F3:eH (g0 P need ops r n (aF.bQ env) s)=some false->∀an,lT P need ops r n (aF.bQ env) s (aF.den (.v (.aD []))) an=true:=λhw an=>by
          unfold lT;rw[hw]
         split at ad
         · rename_i a b FR
           have aq:∀(x:aF),l9 n env Γ a=some x->g0 P need ops r n (aF.bQ env) s=some (x.den,b):=λx ad=>by
            have jH:hl n (aF.bQ env) (cU Γ) a=some x.den:=by rw[<-wa,ad];rfl
            rw[yU,FR]
            simp only[Option.map_some,wb hm jH]
           split at ad
           · rename_i tD
             exact fin ad λo _=>F3 (by rw[aq _ tD];rfl) _
           · rename_i tD
             cases b with
             |false=>exact fin ad λo _=>F3 (by rw[aq _ tD];rfl) _
             |true=>cases ad
           · rename_i tD
             cases b with
             |true=>exact fin ad λo _=>F3 (by rw[aq _ tD];rfl) _
             |false=>cases ad
           · cases ad
         · cases ad
        · rename_i dK
          obtain⟨fA,ad⟩:=LQ ad
          obtain⟨ad,U_⟩:=yY _ ad
          have hg:(λx=>(k7 P need n env Γ s.loc x).den)=λx=>(hl n (aF.bQ env) (cU Γ) (cP P need s.loc x)).getD .bad:=funext λx=>FV
          refine fin ad λo a8=>?_
          rcases nv v.den g4 LS mb with e|⟨dW,e⟩
          · have hw:eH (g0 P need ops r n (aF.bQ env) s)=some false:=by rw[yU];exact e.ok hm
            unfold lT;rw[hw]
          · have hw:eH (g0 P need ops r n (aF.bQ env) s)=some true:=by rw[yU];exact dW.ok hm
            have look:∀an,(∃g5,cD P s.o (λx=>(k7 P need n env Γ s.loc x).den) an=.val v.den g5)->lT P need ops r n (aF.bQ env) s v.den an=true:=λan ⟨g5,e⟩=>by
             have Va:cD P s.o (λx=>d_ n (aF.bQ env) r (cP P need s.loc x)) an=.val v.den g5:=by
              rw[<-e,hg]
              exact yd s.o an (FW hm ur)
             unfold lT
             simp only[hw,Va]
             exact tP _ fA
            rw[<-hg] at e
            cases o with
            |none=>exact look _ e
            |some an=>
             refine look an ?_
             cases aj:B5 P s.o (k7 P need n env Γ s.loc) with
             |true=>
              obtain⟨ab,e⟩:=e
              exact U8 aj e an
             |false=>exact⟨an,tO (U_ aj an a8)⟩
    · cases ad
  · rename_i tA
    have ad:=AI ad
    rw[ad,Bool.and_true]
    cases ag:Nat.blt s.i n with
    |false=>rfl
    |true=>
     cases au:kindOf P s.o.op with
     |pure=>exact absurd au (tA ag)
     |alloc=>rfl
     |ey=>rfl
theorem F4{ops:Array Oper}{n:Nat}{env:List aF}{dJ:List Nat}{Γ:dc}{last:Option Nat}{h:aa}{cu:Nat}{a9:mK}{K:cL}:∀(l:List DStep),(lA P need ops n env dJ Γ last h cu a9 l K).p->K.p
 |[],ad=>ad
 |s::rest,ad=>by
  have bp:(lA P need ops n env dJ Γ last h cu a9 rest K).p->K.p:=λk=>F4 rest k
  simp only[lA] at ad
  split at ad
  · split at ad
    · split at ad
      · exact bp ad
      · split at ad
        · split at ad
          · split at ad
            · exact bp ad
            · split at ad
              · exact bp ad
              · cases ad
            · split at ad
              · exact bp ad
              · cases ad
            · cases ad
          · cases ad
        · exact bp (yY _ (LQ ad).2).1
    · cases ad
  · exact bp ad
def LU(P:Program)(need:Nat)(inR:Bool)(call:aO->List J->aa->ax)(pl:kN)(ir:Nat)(ops:Array Oper)(Γ:dc)(d:List bC)(q:bG)(h:aa)(K:bK->dc->List bC->bG->aa->cL):cL:=
 sf P need inR call pl ir ops h.n (fk ops.toList 0 [] []) [] [] Γ d q (h.room ops.size) 0 []
  (λenv dJ Γ d q h cu a9=>lA P need ops env.length env dJ Γ none h cu a9 (fk ops.toList 0 [] []) (nE (um need env.length env Γ (iP ops.toList 0 []) Γ) λΓ=>K .nrm Γ d q h))
  (λv env dJ Γ d q h cu a9=>match a9 with
   |(e,m,h0,wm)::a9=>lA P need ops env.length env dJ Γ (some e) h0 wm a9 (fk ops.toList 0 [] []) (nE (yR (iP ops.toList 0 []) Γ) λΓ=>K (.bk v) Γ d q h)
   |[]=>bad "a panic")
def F5(P:Program)(need:Nat)(rd:Option Nat)(call:aO->List J->aa->ax)(c:Code)(Γ:dc)(d:List bC)(q:bG)(h:aa)(K:bK->dc->List bC->bG->aa->cL):Prop:=∃e cA bx bq an,c9 P need rd call c ⟨cU Γ,d,q,h⟩ e ⟨cU cA,bx,bq,an⟩/\(K e cA bx bq an).p
theorem Vb{rd:Option Nat}{pl:kN}{ir:Nat}{ops:Array Oper}{Γ:dc}{d:List bC}{q:bG}{h:aa}{K:bK->dc->List bC->bG->aa->cL}(ad:(LU P need rd.isSome call pl ir ops Γ d q h K).p):F5 P need rd call (.region ir ops true) Γ d q h K:=by
 have pM:∀(k:Nat) (s:DStep),(fk ops.toList 0 [] [])[k]? =some s->s.i=k:=λk s hs=>by have:=LL _ _ _ _ _ _ hs;omega
 have df:mL P need ops [] [] [] Γ (h.room ops.size) 0 [] (λ_=>h.room ops.size):=⟨rfl,λ_ hm=>(by cases hm),λ_ hm=>(by cases hm),rfl,λ_ hm=>(by cases hm)⟩
 rcases uq pM (fk ops.toList 0 [] []) [] [] [] Γ d q (h.room ops.size) 0 [] _ rfl df ad with⟨fx,sh,cA,bx,bq,an,k8,sg,aZ,bj,bo,w,dO⟩|⟨v,fx,sh,cA,bx,bq,an,k8,e,m,h0,wm,r4,aZ,yV,bj,bo,w,⟨post,aY⟩,dO⟩
 · refine⟨.nrm,_,bx,bq,an,λr hm=>?_,oA (F4 _ dO)⟩
   have ab:=bj r hm
   have ae:=F2 (r:=r) (by rw[bo];exact hm) w.cur (λz a0=>(w.st z a0).2) _ (λs hs _=>w.seen s hs) dO
   refine⟨_,?_,F0 (by rw[bo];exact hm) _ _ _ (by rw[bo];exact hm)⟩
   have h5:gw P need rd.isSome call ops r h.n (fk ops.toList 0 [] []) [] d q ⟨h.t,h.n+ops.size⟩ []=.ok (aF.bQ fx) bx bq an (iu sg):=ab
   simp only[dD,sZ,h5,B6,ae,qh]
 · refine⟨.bk v,_,bx,bq,an,λr hm=>?_,oA (F4 _ dO)⟩
   have ab:=bj r hm
   have Vc:∀s∈fk ops.toList 0 [] [],s.i<fx.length->wk P need ops s fx.length (aF.bQ fx) (cU cA) sh aZ:=λs hs af=>by
    refine w.seen s ?_
    obtain⟨k,au,vK⟩:=List.getElem_of_mem hs
    have adj:s.i=k:=pM k s (by rw[List.getElem?_eq_getElem au,vK])
    have Vd:k<yV.length:=by rw[w.pl];omega
    have:(yV++post)[k]? =some s:=by rw[<-aY,List.getElem?_eq_getElem au,vK]
    rw[List.getElem?_append_left Vd] at this
    exact List.mem_of_getElem? this
   have ae:=F2 (r:=r) (by rw[bo];exact hm) w.cur (λz a0=>(w.st z a0).2) _ Vc dO
   refine⟨_,?_,F1 _ _ _ (by rw[bo];exact hm)⟩
   have h5:gw P need rd.isSome call ops r h.n (fk ops.toList 0 [] []) [] d q ⟨h.t,h.n+ops.size⟩ []=.bk v (aF.bQ fx) bx bq an ((e,m,h0)::iu r4):=ab
   simp only[dD,sZ,h5,B6,ae,qh]
end
end ay
namespace ay
open Go
abbrev uu:=bK->dc->List bC->bG->aa->cL
def B7(P:Program):List (Nat×km)->(dc->cL)->cL
 |[],K=>K []
 |(t,s)::l,K=>shape P 9 s λx=>B7 P l λΓ=>K ((t,x)::Γ)
def F6(P:Program)(d:List bC)(q:bG)(K:uu)(c6:bK)(c0:ar):List (bK×List (Nat×km))->cL
 |[]=>bad "loop"
 |[(e,rs)]=>B7 P rs λgD=>ei λg:aa=>ei λcA:Env=>gq (c6=e) (gq (c0=⟨cA,d,q,g⟩) (gq (cZ (cU gD) cA) (K e gD d q g)))
 |(e,rs)::l=>.mk ((B7 P rs λgD=>ei λg:aa=>ei λcA:Env=>gq (c6=e) (gq (c0=⟨cA,d,q,g⟩) (gq (cZ (cU gD) cA) (K e gD d q g)))).p\/(F6 P d q K c6 c0 l).p)
def Ve:Operand->Nat
 |.tmp t=>t
 |_=>999
def B8(P:Program)(call:aO->List J->aa->ax)(fn:Func)(pl:kN)(gj:Nat)(path:List Nat)(Γ:dc)(d:List bC)(q:bG)(h:aa)(K:uu):cL:=match uc (4000+gj) pl with
 |some (.fw ins outs)=>.mk (bB P fn call path ⟨mD (cU Γ) ins,d,q,h⟩ λc6 c0=>(F6 P d q K c6 c0 outs).p)
 |_=>bad "loop"
def mM(P:Program)(call:aO->List J->aa->ax)(fn:Func)(need:Nat)(pl:kN):Code->Nat->List Nat->dc->List bC->bG->aa->uu->cL
 |.skip,_,_,Γ,d,q,h,K=>K .nrm Γ d q h
 |.label _,_,_,Γ,d,q,h,K=>K .nrm Γ d q h
 |.exit id,_,_,Γ,d,q,h,K=>K (.exit id) Γ d q h
 |.ret,_,_,Γ,d,q,h,K=>K .ret Γ d q h
 |.scope b,gj,p,Γ,d,q,h,K=>mM P call fn need pl b gj (p++[0]) Γ d q h K
 |.region id ops draw,_,_,Γ,d,q,h,K=>match draw with
  |false=>yQ P need false call pl id (o9 P need ops).steps [] Γ d q h
   (λenv Γ d q h=>nE (um need env.length env Γ (o9 P need ops).loc Γ) λΓ=>K .nrm Γ d q h)
   (λv Γ d q h=>nE (yR (o9 P need ops).loc Γ) λΓ=>K (.bk v) Γ d q h)
  |true=>LU P need false call pl id ops Γ d q h K
 |.seq a b,gj,p,Γ,d,q,h,K=>mM P call fn need pl a gj (p++[0]) Γ d q h λe Γ d q h=>match e with
  |.nrm=>mM P call fn need pl b gj (p++[1]) Γ d q h K
  |e=>K e Γ d q h
 |.cond c a b,gj,p,Γ,d,q,h,K=>match l9 0 [] Γ (cP P need [] c) with
  |none=>bad "if"
  |some s=>s.dB (BZ (uc (1000+Ve c) pl)) (nE (ua (cP P need [] c) .jX Γ) λΓ=>mM P call fn need pl a gj (p++[0]) Γ d q h K) (nE (ua (cP P need [] c) .jY Γ) λΓ=>mM P call fn need pl b gj (p++[1]) Γ d q h K)
 |.block id b,_,p,Γ,d,q,h,K=>mM P call fn need pl b id (p++[0]) Γ d q h λe Γ d q h=>match e with
  |.exit i=>match Nat.beq i id with
   |true=>K .nrm Γ d q h
   |false=>K (.exit i) Γ d q h
  |e=>K e Γ d q h
 |.loop _,gj,p,Γ,d,q,h,K=>B8 P call fn pl gj p Γ d q h K
 |.rangeFunc _ _ _ _,gj,p,Γ,d,q,h,K=>B8 P call fn pl (500+gj) p Γ d q h K
 |_,_,_,_,_,_,_,_=>bad "code"
section
variable {P:Program} {call:aO->List J->aa->ax} {fn:Func}
theorem F7:∀(l:List (Nat×km)) {K:dc->cL},(B7 P l K).p->∃Γ,(K Γ).p
 |[],K,h=>⟨[],h⟩
 |(t,s)::l,K,h=>by
  obtain⟨x,h⟩:=ui h
  obtain⟨Γ,h⟩:=F7 l h
  exact⟨_,h⟩
theorem LV{d:List bC}{q:bG}{K:uu}{c6:bK}{c0:ar}:∀(l:List (bK×List (Nat×km))),(F6 P d q K c6 c0 l).p->∃gD cA g,c0=⟨cA,d,q,g⟩/\cZ (cU gD) cA/\(K c6 gD d q g).p
 |[],h=>by cases h
 |[(e,rs)],h=>by
  obtain⟨gD,g,cA,rfl,ae,av,aK⟩:=F7 _ h
  exact⟨gD,cA,g,ae,av,aK⟩
 |(e,rs)::y::l,h=>by
  rcases h with h|h
  · obtain⟨gD,g,cA,rfl,ae,av,aK⟩:=F7 _ h
    exact⟨gD,cA,g,ae,av,aK⟩
  · exact LV (y::l) h
theorem B9(Γ:Env):∀l:List Nat,cZ (mD Γ l) Γ
 |[]=>trivial
 |t::l=>by
  simp only[mD]
  cases h:fy t Γ with
  |none=>exact B9 Γ l
  |some v=>exact⟨h,B9 Γ l⟩
theorem LW{pl:kN}{gj:Nat}{p:List Nat}{Γ:dc}{d:List bC}{q:bG}{h:aa}{K:uu}(ad:(B8 P call fn pl gj p Γ d q h K).p):F5 P (dh fn) none call (sub (fv fn) p) Γ d q h K:=by
 unfold B8 at ad
 split at ad
 · obtain⟨e,st,ai,a1⟩:=ad
   obtain⟨gD,cA,g,rfl,av,aK⟩:=LV _ a1
   have ab:c9 P (dh fn) none call (sub (fv fn) p) ⟨cU Γ,d,q,h⟩ e ⟨cA,d,q,g⟩:=c9.pre (st1:=⟨cU Γ,d,q,h⟩) ai (B9 _ _) rfl rfl rfl
   exact⟨e,gD,d,q,g,c9.post ab av,aK⟩
 · cases ad
theorem sk{pl:kN}:∀(c:Code) (gj:Nat) (p:List Nat) (Γ:dc) (d:List bC) (q:bG) (h:aa) (K:uu),sub (fv fn) p=c->(mM P call fn (dh fn) pl c gj p Γ d q h K).p->F5 P (dh fn) none call c Γ d q h K
 |.skip,gj,p,Γ,d,q,h,K,ah,ad=>⟨.nrm,Γ,d,q,h,λr ai=>⟨r,rfl,ai⟩,ad⟩
 |.label _,gj,p,Γ,d,q,h,K,ah,ad=>⟨.nrm,Γ,d,q,h,λr ai=>⟨r,rfl,ai⟩,ad⟩
 |.exit id,gj,p,Γ,d,q,h,K,ah,ad=>⟨.exit id,Γ,d,q,h,λr ai=>⟨r,rfl,ai⟩,ad⟩
 |.ret,gj,p,Γ,d,q,h,K,ah,ad=>⟨.ret,Γ,d,q,h,λr ai=>⟨r,rfl,ai⟩,ad⟩
 |.scope b,gj,p,Γ,d,q,h,K,ah,ad=>sk b gj (p++[0]) Γ d q h K (by rw[kL,ah];simp[sub]) ad
 |.region id ops draw,gj,p,Γ,d,q,h,K,ah,ad=>by
  simp only[mM] at ad
  cases draw with
  |true=>exact Vb ad
  |false=>
   rcases FZ _ _ _ _ _ _ ad with⟨fx,cA,bx,bq,an,bj,bo,dO⟩|⟨v,cA,bx,bq,an,bj,bo,dO⟩
   · refine⟨.nrm,_,bx,bq,an,λr ai=>⟨_,?_,F0 (by rw[bo];exact ai) _ _ _ (by rw[bo];exact ai)⟩,oA dO⟩
     have ab:j9 P (dh fn) false call r (o9 P (dh fn) ops).steps [] d q h=.ok (aF.bQ fx) bx bq an:=bj r ai
     simp only[dD,Option.isSome_none,ab,qh,B6]
   · refine⟨.bk v,_,bx,bq,an,λr ai=>⟨_,?_,F1 _ _ _ (by rw[bo];exact ai)⟩,oA dO⟩
     have ab:j9 P (dh fn) false call r (o9 P (dh fn) ops).steps [] d q h=.bk v bx bq an:=bj r ai
     simp only[dD,Option.isSome_none,ab,qh]
 |.seq a b,gj,p,Γ,d,q,h,K,ah,ad=>by
  obtain⟨e,gV,d1,aR,ab,ba,bz⟩:=sk a gj (p++[0]) Γ d q h _ (by rw[kL,ah];simp[sub]) ad
  by_cases he:e=.nrm
  · subst he
    obtain⟨aC,hG,d2,aT,ae,bt,bA⟩:=sk b gj (p++[1]) gV d1 aR ab K (by rw[kL,ah];simp[sub]) bz
    refine⟨aC,hG,d2,aT,ae,λr ai=>?_,bA⟩
    obtain⟨hL,gg,mN⟩:=ba r ai
    obtain⟨Vf,wv,Vg⟩:=bt hL mN
    exact⟨Vf,by simp only at gg wv;simp only[dD,gg,qi,wv],Vg⟩
  · refine⟨e,gV,d1,aR,ab,λr ai=>?_,by cases e<;>first|exact absurd rfl he|exact bz⟩
    obtain⟨hL,gg,mN⟩:=ba r ai
    exact⟨hL,by simp only[dD,gg];exact tq he,mN⟩
 |.cond c a b,gj,p,Γ,d,q,h,K,ah,ad=>by
  simp only[mM] at ad
  split at ad
  · cases ad
  · rename_i s hs
    have jH:hl 0 [] (cU Γ) (cP P (dh fn) [] c)=some s.den:=by rw[show([]:List J)=aF.bQ [] from rfl,<-wa,hs];rfl
    obtain⟨ag,a6⟩:=B2 _ ad
    have aq:=aF.pI ag
    rcases a6 with⟨a2,au⟩|⟨a2,au⟩
    · rw[a2] at aq
      obtain⟨_,aC,_⟩:=wc (x:=.jX) hs aq
      obtain⟨e,gV,d1,aR,ab,ba,bz⟩:=sk a gj (p++[0]) _ d q h K (by rw[kL,ah];simp[sub]) (oA au)
      refine⟨e,gV,d1,aR,ab,λr ai=>?_,bz⟩
      obtain⟨hL,gg,mN⟩:=ba r (by rw[aC];exact ai)
      exact⟨hL,by simp only at gg;simp only[dD,wb ai jH,aq,gg],mN⟩
    · rw[a2] at aq
      obtain⟨_,aC,_⟩:=wc (x:=.jY) hs aq
      obtain⟨e,gV,d1,aR,ab,ba,bz⟩:=sk b gj (p++[1]) _ d q h K (by rw[kL,ah];simp[sub]) (oA au)
      refine⟨e,gV,d1,aR,ab,λr ai=>?_,bz⟩
      obtain⟨hL,gg,mN⟩:=ba r (by rw[aC];exact ai)
      exact⟨hL,by simp only at gg;simp only[dD,wb ai jH,aq,gg],mN⟩
 |.block id b,gj,p,Γ,d,q,h,K,ah,ad=>by
  obtain⟨e,gV,d1,aR,ab,ba,bz⟩:=sk b id (p++[0]) Γ d q h _ (by rw[kL,ah];simp[sub]) ad
  cases e with
  |exit i=>
   simp only at bz
   cases af:Nat.beq i id with
   |true=>
    rw[af] at bz
    obtain rfl:=Nat.eq_of_beq_eq_true af
    exact⟨.nrm,gV,d1,aR,ab,λr ai=>by
     obtain⟨hL,gg,mN⟩:=ba r ai
     exact⟨hL,by simp only at gg;simp only[dD,gg,if_true],mN⟩,bz⟩
   |false=>
    rw[af] at bz
    have dK:¬i=id:=by intro cI;subst cI;simp at af
    exact⟨.exit i,gV,d1,aR,ab,λr ai=>by
     obtain⟨hL,gg,mN⟩:=ba r ai
     exact⟨hL,by simp only at gg;simp only[dD,gg,if_neg dK],mN⟩,bz⟩
  |_=>
   exact⟨_,gV,d1,aR,ab,λr ai=>by
    obtain⟨hL,gg,mN⟩:=ba r ai
    exact⟨hL,by simp only at gg;simp only[dD,gg],mN⟩,bz⟩
 |.loop b,gj,p,Γ,d,q,h,K,ah,ad=>by
  have:=LW ad;rw[ah] at this;exact this
 |.rangeFunc f ps as cb,gj,p,Γ,d,q,h,K,ah,ad=>by
  have:=LW ad;rw[ah] at this;exact this
 |.goto _,gj,p,Γ,d,q,h,K,ah,ad=>by simp only[mM] at ad;cases ad
 |.refuse _,gj,p,Γ,d,q,h,K,ah,ad=>by simp only[mM] at ad;cases ad
def LX(P:Program)(fn:Func)(call:aO->List J->aa->ax)(pl:kN)(bM:List Nat)(path:List Nat)(Γ:dc)(d:List bC)(q:bG)(h:aa)(Q:bK->ar->Prop):Prop:=
 (mM P call fn (dh fn) pl (sub (fv fn) path) 0 path Γ d q h λe Γ d q h=>.mk (Q e ⟨mD (cU Γ) bM,d,q,h⟩)).p
theorem gN(pl:kN)(bM:List Nat)(Γ:dc){cA:Env}{path:List Nat}{d:List bC}{q:bG}{h:aa}{Q:bK->ar->Prop}(dk:cU Γ=cA)(H:LX P fn call pl bM path Γ d q h Q):bB P fn call path ⟨cA,d,q,h⟩ Q:=by
 subst dk
 obtain⟨e,gV,d1,aR,ab,ba,bz⟩:=sk _ 0 path Γ d q h _ rfl H
 exact⟨e,_,c9.post ba (B9 _ bM),bz⟩
def LY(P:Program)(fn:Func)(R:ax->Prop):uu:=λe Γ d q h=>match d with
 |[]=>match e with
  |.bk v=>.mk (R (.bk v h))
  |.ret|.nrm=>match k5 P (dh fn) fn (cU Γ) h with
   |some v=>.mk (R (.ret v h))
   |none=>bad "results"
  |_=>bad "end"
 |_=>bad "deferred"
def LZ(P:Program)(fn:Func)(call:aO->List J->aa->ax)(pl:kN)(Γ:dc)(h:aa)(R:ax->Prop):Prop:=
 (mM P call fn (dh fn) pl (fv fn) 0 [] Γ [] .none h (LY P fn R)).p
theorem dH{intr:Nat->List J->aa->Option (J×aa)}{f n:Nat}{args:List J}{h:aa}{R:ax->Prop}(pl:kN)(Γ:dc)(hf:P.funcs[f]? =some fn)(ag:fn.body.isSome=true)(af:intr f args h=none)(hle:Nat.ble args.length fn.ntmps=true)(dk:cU Γ=mG 0 args)(H:LZ P fn (e_ P intr n) pl Γ h R):R (e_ P intr (n+1) (.fn f) args h):=by
 refine Lv hf ag af hle (Q:=λe s=>s.d=[]/\((∃v,e=.bk v/\R (.bk v s.h))\/((e=.ret\/e=.nrm)/\∃v,k5 P (dh fn) fn s.Γ s.h=some v/\R (.ret v s.h)))) ?_ λe s a1=>?_
 · have hs:sub (fv fn) []=fv fn:=by cases fv fn<;>rfl
   obtain⟨e,gV,d1,aR,ab,ba,bz⟩:=sk (fv fn) 0 [] Γ [] .none h _ hs H
   rw[dk] at ba
   refine⟨e,⟨cU gV,d1,aR,ab⟩,by unfold aN;rw[hs];exact ba,?_⟩
   unfold LY at bz
   split at bz
   · refine⟨rfl,?_⟩
     split at bz
     · exact .inl ⟨_,rfl,bz⟩
     · split at bz
       · rename_i v aH;exact .inr ⟨.inl rfl,v,aH,bz⟩
       · cases bz
     · split at bz
       · rename_i v aH;exact .inr ⟨.inr rfl,v,aH,bz⟩
       · cases bz
     · cases bz
   · cases bz
 · obtain⟨aq,a1⟩:=a1
   rcases a1 with⟨v,rfl,ai⟩|⟨he,v,aH,ai⟩
   · exact .inr ⟨v,rfl,aq,ai⟩
   · exact .inl ⟨he,aq,v,aH,ai⟩
end
attribute [irreducible] LX LZ
end ay
