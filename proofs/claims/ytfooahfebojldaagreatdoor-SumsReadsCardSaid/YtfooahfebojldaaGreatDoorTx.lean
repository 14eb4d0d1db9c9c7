/-
  PROVED HERE: contracts of functions (Tx). No condition beside each statement's own.
-/
import Derived.Test.YtfooahfebojldaaGreatDoorSxb
set_option linter.unusedVariables false
set_option linter.unusedSimpArgs false
namespace aC
open Go
inductive Stop(jL:String):Prop
inductive dp where
 |mk (p:Prop)
def dp.p:dp->Prop
 |.mk p=>p
abbrev bad(w:String):dp:=.mk (Stop w)
abbrev g3(p:Prop)(k:dp):dp:=.mk (p/\k.p)
abbrev g4{α:Type}(f:α->dp):dp:=.mk (∃x:α,(f x).p)
abbrev yA(c c':Prop)(a b:dp):dp:=.mk ((c->a.p)/\(c'->b.p))
inductive aT where
 |v (a:J)
 |o (a:J)
 |kG|kH
 |lt (i n:Nat)|le (i n:Nat)|eq (i n:Nat)
 |cG (s:aT)
 |kI (l:List aT)
 |k1 (l:List aT)
def aT.lu:aT->Bool
 |.kG=>true
 |.kH=>false
 |.lt i n=>br (.ofNat i) (.ofNat n)
 |.le i n=>dq (.ofNat i) (.ofNat n)
 |.eq i n=>ba (.ofNat i) (.ofNat n)
 |.cG s=>!s.lu
 |.v (.bool b)=>b
 |_=>false
def aT.ug:aT->Bool
 |.kG|.kH|.lt _ _|.le _ _|.eq _ _|.cG _=>true
 |.v (.bool _)=>true
 |_=>false
mutual
def aT.den:aT->J
 |.v a=>a
 |.o a=>a
 |.kG=>.bool true
 |.kH=>.bool false
 |.lt i n=>.bool (br (.ofNat i) (.ofNat n))
 |.le i n=>.bool (dq (.ofNat i) (.ofNat n))
 |.eq i n=>.bool (ba (.ofNat i) (.ofNat n))
 |.cG s=>.bool (!s.lu)
 |.kI l=>.agg (aT.cQ l)
 |.k1 l=>.aL (aT.cQ l)
def aT.cQ:List aT->List J
 |[]=>[]
 |s::l=>s.den::aT.cQ l
end
def v8:J->aT
 |.bool true=>.kG
 |.bool false=>.kH
 |v=>.v v
abbrev dC:=List (Nat×aT)
def dd:dC->Env
 |[]=>[]
 |(t,s)::l=>(t,s.den)::dd l
def uh(t:Nat):dC->Option aT
 |[]=>none
 |(u,s)::l=>match Nat.beq t u with
  |true=>some s
  |false=>uh t l
def ui:Nat->List aT->Option aT
 |_,[]=>none
 |0,s::_=>some s
 |n+1,_::l=>ui n l
def uj:Nat->aT->List aT->List aT
 |_,_,[]=>[]
 |0,x,_::l=>x::l
 |n+1,x,s::l=>s::uj n x l
def BB(t:Nat)(x:aT):dC->dC
 |[]=>[]
 |(u,s)::l=>match Nat.beq t u with
  |true=>(u,x)::l
  |false=>(u,s)::BB t x l
def mR(m:Nat)(env:List aT)(Γ:dC):Acc->Option aT
 |.env j=>match Nat.blt j m with
  |true=>ui (m-1-j) env
  |false=>none
 |.reg p=>uh p.num Γ
 |.val v=>some (v8 v)
def v9(m:Nat)(a:Acc)(b:aT)(env:List aT):List aT:=match a with
 |.env j=>uj (m-1-j) b env
 |_=>env
def uk(a:Acc)(b:aT)(Γ:dC):dC:=match a with
 |.reg p=>BB p.num b Γ
 |_=>Γ
def aT.mS(s:aT)(K:aT->dp):dp:=match s with
 |.v a=>K (.v a)
 |.o a=>K (.o a)
 |.kG=>K .kG
 |.kH=>K .kH
 |.lt i n=>K (.lt i n)
 |.le i n=>K (.le i n)
 |.eq i n=>K (.eq i n)
 |.cG s=>K (.cG s)
 |.kI l=>K (.kI l)
 |.k1 l=>K (.k1 l)
def v_:List aT->(List aT->dp)->dp
 |[],K=>K []
 |s::l,K=>s.mS λs=>v_ l λl=>K (s::l)
def n9:dC->(dC->dp)->dp
 |[],K=>K []
 |(t,s)::l,K=>s.mS λs=>n9 l λl=>K ((t,s)::l)
inductive k2 where
 |ty (t:TypeId)
 |is (v:J)|io (v:J)
 |z (k:IntKind)
 |n (k:IntKind)
 |o
 |p|Ko
 |st|b
 |iv|sr (c:cE)
 |k1 (l:List k2)|kI (l:List k2)
 |Kp (t:TypeId) (s:k2)
 |fn (f:Nat) (k:Nat)
inductive p_ where
 |cI (s:k2)
 |t|f
 |p (s:k2)
 |e (r:Option k2) (s:k2)
 |gr (ins:List Nat) (outs:List (bA×List (Nat×k2)))
def EV:List aT->List aT
 |[]=>[]
 |.kI l::r=>l++EV r
 |s::r=>s::EV r
abbrev lv:=List (Nat×p_)
def um(k:Nat):lv->Option p_
 |[]=>none
 |(j,o)::l=>match Nat.beq k j with
  |true=>some o
  |false=>um k l
mutual
def shape(P:Program):Nat->k2->(aT->dp)->dp
 |0,_,_=>bad "shape"
 |n+1,s,K=>match s with
  |.is v=>K (v8 v)
  |.io v=>K (.o v)
  |.z k=>g4 λx:Int=>K (.o (.int k x))
  |.n k=>g4 λx:Nat=>K (.v (.int k (.ofNat x)))
  |.o=>g4 λx:J=>K (.o x)
  |.p=>g4 λx:Nat=>K (.v (.ptr x 0))
  |.Ko=>g4 λx:Nat=>g4 λy:Nat=>K (.v (.ptr x y))
  |.st=>g4 λx:List UInt8=>K (.v (.str x))
  |.b=>g4 λx:Bool=>K (.v (.bool x))
  |.iv=>g4 λx:Nat=>g4 λy:Nat=>g4 λz:Nat=>g4 λc:cE=>K (.v (.slice x y z c))
  |.sr c=>g4 λx:Nat=>g4 λz:Nat=>K (.v (.slice x 0 z c))
  |.k1 l=>ss P n l λr=>K (.k1 r)
  |.kI l=>ss P n l λr=>K (.kI r)
  |.Kp t s=>shape P n s λx=>K (.v (.iface t x.den))
  |.fn f k=>g4 λx:List J=>K (.v (.fn f [] x))
  |.ty t=>match P.underlying t with
   |some .bool=>g4 λx:Bool=>K (.v (.bool x))
   |some (.int k)=>g4 λx:Nat=>K (.v (.int k (.ofNat x)))
   |some .string=>g4 λx:List UInt8=>K (.v (.str x))
   |some (.pointer _)=>g4 λx:Nat=>K (.v (.ptr x 0))
   |some (.struct dm)=>ss P n (dm.toList.map λf=>.ty f.type) λr=>K (.kI (EV r))
   |some (.tuple c7)=>ss P n (c7.toList.map .ty) λr=>K (.k1 r)
   |some .invalid=>K (.v (.aL []))
   |some _=>g4 λx:J=>K (.o x)
   |none=>K (.v (.aL []))
def ss(P:Program):Nat->List k2->(List aT->dp)->dp
 |0,_,_=>bad "shapes"
 |n+1,l,K=>match l with
  |[]=>K []
  |s::l=>shape P n s λx=>ss P n l λr=>K (x::r)
end
def aT.eL(fk:Option Bool)(A B:dp):aT->dp
 |.kG=>A
 |.kH=>B
 |.lt i n=>match fk with
  |none=>yA (i<n) (¬i<n) A B
  |some true=>g3 (i<n) A
  |some false=>g3 (¬i<n) B
 |.le i n=>match fk with
  |none=>yA (i<=n) (¬i<=n) A B
  |some true=>g3 (i<=n) A
  |some false=>g3 (¬i<=n) B
 |.eq i n=>match fk with
  |none=>yA (i=n) (¬i=n) A B
  |some true=>g3 (i=n) A
  |some false=>g3 (¬i=n) B
 |.cG s=>s.eL (match fk with|none=>none|some b=>some (!b)) B A
 |.v (.bool x)=>match fk with
  |none=>yA (x=true) (x=false) A B
  |some true=>g3 (x=true) A
  |some false=>g3 (x=false) B
 |_=>bad "choice"
def BC(o:Option p_):Option Bool:=match o with
 |some .t=>some true
 |some .f=>some false
 |_=>none
def EW(o:Option p_)(t:TypeId):k2:=match o with
 |some (.cI s)=>s
 |_=>.ty t
def EX(op:BinOp)(x y:aT):Option aT:=match x,y with
 |.v (.int k (.ofNat a)),.v (.int k' (.ofNat b))=>match decide (k=k') with
  |true=>match op with
   |.lss=>some (.lt a b)
   |.leq=>some (.le a b)
   |.gtr=>some (.lt b a)
   |.geq=>some (.le b a)
   |.eql=>some (.eq a b)
   |.neq=>some (.cG (.eq a b))
   |_=>none
  |false=>none
 |_,_=>none
def EY(op:BinOp)(x y:aT):Option (Prop×J):=match x,y with
 |.v (.int k (.ofNat a)),.v (.int k' (.ofNat b))=>match decide (k=k'),op,k with
  |true,.add,.i64=>some (a+b<9223372036854775808,.int .i64 (.ofNat (a+b)))
  |true,.sub,.i64=>some (b<=a/\a<9223372036854775808,.int .i64 (.ofNat (a-b)))
  |true,.mul,.i64=>some (a*b<9223372036854775808,.int .i64 (.ofNat (a*b)))
  |true,.add,.u64=>some (a+b<18446744073709551616,.int .u64 (.ofNat (a+b)))
  |true,.sub,.u64=>some (b<=a/\a<18446744073709551616,.int .u64 (.ofNat (a-b)))
  |_,_,_=>none
 |.v (.str a),.v (.str b)=>match op with
  |.add=>some (a.length+b.length<=1000000000000,.str (a++b))
  |_=>none
 |_,_=>none
def uo:aT->List J
 |.o a=>[a]
 |s=>s.den.cells
def yB:List aT->dp->dp
 |[],K=>K
 |.o a::l,K=>g3 (a.cu=true) (yB l K)
 |_::l,K=>yB l K
def yC:List aT->Bool
 |[]=>true
 |.o _::l=>yC l
 |s::l=>s.den.cu&&yC l
def wa(s:aT)(K:dp):dp:=match s with
 |.o a=>g3 (a.cu=true) K
 |.kI l=>match yC l with
  |true=>yB l K
  |false=>bad "cells"
 |s=>match s.den.cells.all J.cu with
  |true=>K
  |false=>bad "cells"
def fl(a b:Bool):Bool:=a==b
def EZ(P:Program)(op:BinOp)(t:TypeId)(x y:aT):Option aT:=match x.ug&&y.ug,P.underlying t,op with
 |true,some .bool,.eql=>some (.v (.bool (fl x.lu y.lu)))
 |true,some .bool,.neq=>some (.cG (.v (.bool (fl x.lu y.lu))))
 |_,_,_=>none
def SR(x y:aT):Bool:=match x,y with
 |.v (.ptr _ _),.v .bb|.v .bb,.v .bb|.v (.slice _ _ _ _),.v .aA|.v .aA,.v .aA|.v (.iface _ _),.v .fy|.v .fy,.v .fy=>true
 |_,_=>false
section
variable (P:Program) (inR:Bool) (call:aE->List J->aa->ao)
abbrev qa:=aT->List bU->bH->aa->dp
abbrev qb:=J->List bU->bH->aa->dp
def BD(fk:Option p_)(t:TypeId)(f:aE)(args:List J)(d:List bU)(q:bH)(h:aa)(K:qa)(eC:qb):dp:=match fk with
 |some (.p s)=>shape P 9 s λx=>g4 λg:aa=>g3 (call f args h=.bp x.den g) (eC x.den d q g)
 |some (.e r s)=>.mk ((shape P 9 (match r with|some r=>r|none=>.ty t) λx=>g4 λg:aa=>g3 (call f args h=.ret x.den g) (K x d q g)).p\/(shape P 9 s λx=>g4 λg:aa=>g3 (call f args h=.bp x.den g) (eC x.den d q g)).p)
 |fk=>shape P 9 (EW fk t) λx=>g4 λg:aa=>g3 (call f args h=.ret x.den g) (K x d q g)
def uq(fk:Option p_)(o:Oper)(g:Operand->aT)(d:List bU)(q:bH)(h:aa)(K:qa)(eC:qb):dp:=
 match Ep o (λx=>(g x).den) with
 |0=>match c0 P o (λx=>(g x).den) h with
  |.val v an=>match fk with
   |some (.cI .o)=>K (.o v) d q an
   |_=>K (.v v) d q an
  |.bp v an=>eC v d q an
  |.call f args an=>BD P call fk o.type (.fn f) args d q an K eC
  |.ca l args an=>BD P call fk o.type (.ca l) args d q an K eC
  |.j8 x=>match inR with
   |true=>bad "defer"
   |false=>K (.v (.aL [])) (x::d) q h
  |.s_=>match inR with
   |true=>bad "recover"
   |false=>match q with
    |.none=>K (.v .fy) d .none h
    |.done v=>K (.v .fy) d (.done v) h
    |.act v=>K (.v v) d (.done v) h
  |.fail w=>bad w
 |1=>shape P 9 (EW fk o.type) λx=>g3 (o3 P o (λy=>(g y).den) h x.den) (K x d q h)
 |_=>shape P 9 (EW fk o.type) λx=>g4 λan:aa=>g3 (vR P o (λy=>(g y).den) h x.den an) (K x d q an)
def E0(fk:Option p_)(o:Oper)(g:Operand->aT)(d:List bU)(q:bH)(h:aa)(K:qa)(eC:qb):dp:=match o.op with
 |.move x|.assign x=>(g x).mS λs=>K s d q h
 |.unOp .not _ x=>match(g x).ug with
  |true=>(g x).mS λs=>K (.cG s) d q h
  |false=>bad "not"
 |.binOp op t x y _=>(g x).mS λu=>(g y).mS λw=>match(match EX op u w with|some s=>some s|none=>EZ P op t u w) with
  |some s=>K s d q h
  |none=>match SR u w with
   |true=>match dr P h op t x y u.den w.den with
    |some v=>(v8 v).mS λs=>K s d q h
    |none=>bad "nil"
   |false=>match(match fk with|none=>EY op u w|some _=>none) with
    |some (p,v)=>g3 p (K (.v v) d q h)
    |none=>uq P inR call fk o g d q h K eC
 |.extract x i=>match g x with
  |.k1 l=>match ui i l with
   |some s=>s.mS λs=>K s d q h
   |none=>bad "extract"
  |_=>uq P inR call fk o g d q h K eC
 |.indexAddr t x i=>match P.underlying t,g x,gb (g i).den with
  |some (.array m e),.v (.ptr b off),some n=>match dQ P e with
   |some sz=>g3 (n<m) (K (.v (.ptr b (off+n*sz))) d q h)
   |none=>bad "indexAddr"
  |some (.slice e),.v (.slice b off m c),some n=>match dQ P e with
   |some sz=>g3 (n<m) (K (.v (.ptr b (off+n*sz))) d q h)
   |none=>bad "indexAddr"
  |_,_,_=>bad "indexAddr of what"
 |.store t a x=>match(g a).den,dQ P t with
  |.ptr b off,some n=>match Nat.beq (uo (g x)).length n with
   |true=>(g x).mS λs=>wa s (g4 λep:aa=>g3 (storeCells h b off (uo s)=some ep) (K (.v (.aL [])) d q ep))
   |false=>bad "store size"
  |_,_=>bad "store"
 |.box e x=>(g x).mS λs=>wa s (K (.v (.ptr h.n 0)) d q (h.push (.cells (uo s) e .own 0 0)))
 |.call c=>match c.callee with
  |.builtin .len=>match c.args.toList.map g,c.argTypes[0]? with
   |[.o a],some t=>g4 λn:Nat=>g3 (cq P h t a=some (.int .i64 (.ofNat n))) (K (.v (.int .i64 (.ofNat n))) d q h)
   |_,_=>uq P inR call fk o g d q h K eC
  |_=>uq P inR call fk o g d q h K eC
 |_=>uq P inR call fk o g d q h K eC
end
end aC
namespace aC
open Go
theorem aT.qc{s:aT}(h:s.ug=true):s.den=.bool s.lu:=by
 cases s with
 |v a=>cases a<;>first|rfl|cases h
 |o a=>cases h
 |kI l=>cases h
 |k1 l=>cases h
 |kG=>rfl
 |kH=>rfl
 |lt i n=>rfl
 |le i n=>rfl
 |eq i n=>rfl
 |cG s=>rfl
theorem Kq(a:J):(v8 a).den=a:=by
 unfold v8;split<;>rfl
theorem E1:∀(n:Nat) (l:List aT),(ui n l).map aT.den=nth n (aT.cQ l)
 |0,[]=>rfl
 |_+1,[]=>rfl
 |0,x::l=>rfl
 |n+1,x::l=>E1 n l
theorem Kr(n:Nat)(l:List aT)(s:aT)(h:ui n l=some s):nth n (aT.cQ l)=some s.den:=by
 rw[<-E1,h];rfl
theorem Ks(t:Nat):∀Γ:dC,(uh t Γ).map aT.den=fV t (dd Γ)
 |[]=>rfl
 |(u,x)::l=>by
  simp only[uh,dd,fV]
  cases ag:Nat.beq t u with
  |true=>rfl
  |false=>exact Ks t l
def hX(m:Nat)(l:List J)(G:Env):Acc->Option J
 |.env j=>match Nat.blt j m with
  |true=>nth (m-1-j) l
  |false=>none
 |.reg p=>fV p.num G
 |.val v=>some v
theorem wb(m:Nat)(env:List aT)(Γ:dC)(a:Acc):(mR m env Γ a).map aT.den=hX m (aT.cQ env) (dd Γ) a:=by
 cases a with
 |env j=>
  simp only[mR,hX]
  cases Nat.blt j m with
  |true=>exact E1 _ _
  |false=>rfl
 |reg p=>exact Ks _ _
 |val v=>simp only[mR,hX,Option.map_some,Kq]
theorem wc{m:Nat}{l:List J}{G:Env}{r:a0}(hm:Mod r G){a:Acc}{v:J}(h:hX m l G a=some v):ez m l r a=v:=by
 cases a with
 |env j=>
  simp only[hX] at h
  split at h
  · simp only[ez,h,Option.getD_some]
  · cases h
 |reg p=>simp only[hX] at h;simp only[ez];rw[<-JS p];exact hm _ _ h
 |val x=>cases h;rfl
theorem yD{m:Nat}{l:List J}{G:Env}{a:Acc}{v:J}(x:J)(h:hX m l G a=some v):hX (m+1) (x::l) G a=some v:=by
 cases a with
 |env j=>
  simp only[hX] at h⊢
  split at h
  · rename_i ag
    have aV:j<m:=by simpa using ag
    have fe:Nat.blt j (m+1)=true:=by simp;omega
    rw[fe]
    have:m+1-1-j=(m-1-j)+1:=by omega
    rw[this];exact h
  · cases h
 |reg p=>exact h
 |val x=>exact h
theorem Kt(x:aT):∀(n:Nat) (l:List aT),(∀s,ui n l=some s->s.den=x.den)->aT.cQ (uj n x l)=aT.cQ l
 |0,[],_=>rfl
 |_+1,[],_=>rfl
 |0,s::l,h=>by simp only[uj,aT.cQ,h s rfl]
 |n+1,s::l,h=>by simp only[uj,aT.cQ];rw[Kt x n l h]
theorem Ku(x:aT):∀(n:Nat) (l:List aT),(uj n x l).length=l.length
 |0,[]=>rfl
 |_+1,[]=>rfl
 |0,s::l=>rfl
 |n+1,s::l=>by simp only[uj,List.length_cons,Ku x n l]
theorem Kv(t:Nat)(x:aT):∀Γ:dC,(∀s,uh t Γ=some s->s.den=x.den)->dd (BB t x Γ)=dd Γ
 |[],_=>rfl
 |(u,s)::l,h=>by
  simp only[BB]
  simp only[uh] at h
  cases ag:Nat.beq t u with
  |true=>rw[ag] at h;simp only[dd,h s rfl]
  |false=>rw[ag] at h;simp only[dd];rw[Kv t x l h]
theorem we{m:Nat}{env:List aT}{Γ:dC}{a:Acc}{s x:aT}(h:mR m env Γ a=some s)(e:s.den=x.den):aT.cQ (v9 m a x env)=aT.cQ env/\dd (uk a x Γ)=dd Γ/\(v9 m a x env).length=env.length:=by
 cases a with
 |env j=>
  simp only[mR] at h
  split at h
  · exact⟨Kt x _ _ λa2 hs=>by rw[h] at hs;cases hs;exact e,rfl,Ku _ _ _⟩
  · cases h
 |reg p=>exact⟨rfl,Kv _ _ _ λa2 hs=>by rw[show uh p.num Γ=some s from h] at hs;cases hs;exact e,rfl⟩
 |val v=>exact⟨rfl,rfl,rfl⟩
theorem aT.mT{s:aT}{K:aT->dp}(h:(s.mS K).p):(K s).p:=by cases s<;>exact h
theorem yE:∀{l:List aT} {K:List aT->dp},(v_ l K).p->(K l).p
 |[],_,h=>h
 |s::l,K,h=>yE (l:=l) (aT.mT h)
theorem o8:∀{l:dC} {K:dC->dp},(n9 l K).p->(K l).p
 |[],_,h=>h
 |(t,s)::l,K,h=>o8 (l:=l) (aT.mT h)
theorem Kw{P:Program}:∀(n:Nat),(∀(s:k2) (K:aT->dp),(shape P n s K).p->∃x,(K x).p)/\(∀(l:List k2) (K:List aT->dp),(ss P n l K).p->∃x,(K x).p)
 |0=>⟨λs K h=>(by simp only[shape] at h;cases h),λl K h=>(by simp only[ss] at h;cases h)⟩
 |n+1=>by
  obtain⟨ab,ae⟩:=Kw (P:=P) n
  refine⟨λs K h=>?_,λl K h=>?_⟩
  · simp only[shape] at h
    cases s with
    |is v=>exact⟨_,h⟩
    |io v=>exact⟨_,h⟩
    |z k=>obtain⟨x,h⟩:=h;exact⟨_,h⟩
    |n k=>obtain⟨x,h⟩:=h;exact⟨_,h⟩
    |o=>obtain⟨x,h⟩:=h;exact⟨_,h⟩
    |p=>obtain⟨x,h⟩:=h;exact⟨_,h⟩
    |Ko=>obtain⟨x,y,h⟩:=h;exact⟨_,h⟩
    |st=>obtain⟨x,h⟩:=h;exact⟨_,h⟩
    |b=>obtain⟨x,h⟩:=h;exact⟨_,h⟩
    |iv=>obtain⟨x,y,z,c,h⟩:=h;exact⟨_,h⟩
    |sr c=>obtain⟨x,z,h⟩:=h;exact⟨_,h⟩
    |k1 l=>obtain⟨r,h⟩:=ae _ _ h;exact⟨_,h⟩
    |kI l=>obtain⟨r,h⟩:=ae _ _ h;exact⟨_,h⟩
    |Kp t s=>obtain⟨r,h⟩:=ab _ _ h;exact⟨_,h⟩
    |fn f k=>obtain⟨x,h⟩:=h;exact⟨_,h⟩
    |ty t=>
     simp only at h
     split at h
     · obtain⟨x,h⟩:=h;exact⟨_,h⟩
     · obtain⟨x,h⟩:=h;exact⟨_,h⟩
     · obtain⟨x,h⟩:=h;exact⟨_,h⟩
     · obtain⟨x,h⟩:=h;exact⟨_,h⟩
     · obtain⟨r,h⟩:=ae _ _ h;exact⟨_,h⟩
     · obtain⟨r,h⟩:=ae _ _ h;exact⟨_,h⟩
     · exact⟨_,h⟩
     · obtain⟨x,h⟩:=h;exact⟨_,h⟩
     · exact⟨_,h⟩
  · simp only[ss] at h
    cases l with
    |nil=>exact⟨_,h⟩
    |cons s l=>
     obtain⟨x,h⟩:=ab _ _ h
     obtain⟨r,h⟩:=ae _ _ h
     exact⟨_,h⟩
theorem ur{P:Program}{n:Nat}{s:k2}{K:aT->dp}(h:(shape P n s K).p):∃x,(K x).p:=(Kw n).1 s K h
theorem E2{p:Prop}{A B:dp}{fk:Option Bool}(h:(match fk with
  |none=>yA p (¬p) A B
  |some true=>g3 p A
  |some false=>g3 (¬p) B).p):(p/\A.p)\/(¬p/\B.p):=by
 cases fk with
 |none=>by_cases aU:p
        · exact .inl ⟨aU,h.1 aU⟩
        · exact .inr ⟨aU,h.2 aU⟩
 |some b=>cases b with
  |true=>exact .inl h
  |false=>exact .inr h
theorem BE:∀(s:aT) {fk:Option Bool} {A B:dp},(s.eL fk A B).p->s.ug=true/\((s.lu=true/\A.p)\/(s.lu=false/\B.p))
 |.kG,_,_,_,h=>⟨rfl,.inl ⟨rfl,h⟩⟩
 |.kH,_,_,_,h=>⟨rfl,.inr ⟨rfl,h⟩⟩
 |.lt i n,fk,A,B,h=>by
  refine⟨rfl,?_⟩
  rcases E2 (p:=i<n) h with⟨ab,ae⟩|⟨ab,ae⟩
  · exact .inl ⟨du ab,ae⟩
  · exact .inr ⟨dY ab,ae⟩
 |.le i n,fk,A,B,h=>by
  refine⟨rfl,?_⟩
  rcases E2 (p:=i<=n) h with⟨ab,ae⟩|⟨ab,ae⟩
  · exact .inl ⟨iE ab,ae⟩
  · exact .inr ⟨iF ab,ae⟩
 |.eq i n,fk,A,B,h=>by
  refine⟨rfl,?_⟩
  rcases E2 (p:=i=n) h with⟨ab,ae⟩|⟨ab,ae⟩
  · exact .inl ⟨nv ab,ae⟩
  · exact .inr ⟨jX ab,ae⟩
 |.cG s,fk,A,B,h=>by
  refine⟨rfl,?_⟩
  simp only[aT.eL] at h
  obtain⟨_,ae⟩:=BE s h
  simp only[aT.lu]
  rcases ae with⟨e,k⟩|⟨e,k⟩
  · right;exact⟨by rw[e];rfl,k⟩
  · left;exact⟨by rw[e];rfl,k⟩
 |.v a,fk,A,B,h=>by
  cases a<;>simp only[aT.eL] at h<;>first|(cases h;done)|skip
  rename_i x
  refine⟨rfl,?_⟩
  simp only[aT.lu]
  cases x with
  |true=>left;refine⟨rfl,?_⟩;cases fk with
   |none=>exact h.1 rfl
   |some b=>cases b with
    |true=>exact h.2
    |false=>cases h.1
  |false=>right;refine⟨rfl,?_⟩;cases fk with
   |none=>exact h.2 rfl
   |some b=>cases b with
    |true=>cases h.1
    |false=>exact h.2
 |.o a,_,_,_,h=>by simp only[aT.eL] at h;cases h
 |.kI l,_,_,_,h=>by simp only[aT.eL] at h;cases h
 |.k1 l,_,_,_,h=>by simp only[aT.eL] at h;cases h
section
variable {P:Program} {inR:Bool} {call:aE->List J->aa->ao}
def jw(x:xr)(K:qa)(eC:qb):Prop:=(∃s d q h,x=.ok (aT.den s) d q h/\(K s d q h).p)\/∃v d q h,x=.bp v d q h/\(eC v d q h).p
theorem jw.val{o:Oper}{g:Operand->J}{d:List bU}{q:bH}{h an:aa}{K:qa}{eC:qb}{s:aT}(e:c0 P o g h=.val s.den an)(k:(K s d q an).p):jw (eA P inR call none o g d q h) K eC:=
 .inl ⟨s,d,q,an,by simp only[eA,e_,e],k⟩
theorem E3{K:dp}:∀(l:List aT),yC l=true->(yB l K).p->(aT.cQ l).all J.cu=true/\K.p
 |[],_,h=>⟨rfl,h⟩
 |x::l,ax,h=>by
  cases x with
  |o a=>
   obtain⟨ab,ae⟩:=h
   obtain⟨bx,bI⟩:=E3 l ax ae
   exact⟨by simp only[aT.cQ,List.all_cons,aT.den,ab,bx,Bool.and_self],bI⟩
  |_=>
   simp only[yC,Bool.and_eq_true] at ax
   simp only[yB] at h
   obtain⟨bx,bI⟩:=E3 l ax.2 h
   exact⟨by simp only[aT.cQ,List.all_cons,ax.1,bx,Bool.and_self],bI⟩
theorem E4{s:aT}{K:dp}(h:(wa s K).p):s.den.cells=uo s/\(uo s).all J.cu=true/\K.p:=by
 cases s with
 |o a=>
  obtain⟨ab,ae⟩:=h
  refine⟨?_,by simp[uo,ab],ae⟩
  show a.cells=[a]
  cases a<;>first|rfl|cases ab
 |kI l=>
  simp only[wa] at h
  split at h
  · rename_i ax;exact⟨rfl,E3 l ax h⟩
  · cases h
 |_=>
  simp only[wa] at h
  split at h
  · rename_i ax;exact⟨rfl,ax,h⟩
  · cases h
theorem Kx{fk:Option p_}{t:TypeId}{f:aE}{args:List J}{d:List bU}{q:bH}{h:aa}{K:qa}{eC:qb}(ad:(BD P call fk t f args d q h K eC).p):jw (xt d q (call f args h)) K eC:=by
 unfold BD at ad
 split at ad
 · obtain⟨x,g,e,k⟩:=ur ad
   rw[e];exact .inr ⟨_,_,_,_,rfl,k⟩
 · rcases ad with ad|ad
   · obtain⟨x,g,e,k⟩:=ur ad
     rw[e];exact .inl ⟨_,_,_,_,rfl,k⟩
   · obtain⟨x,g,e,k⟩:=ur ad
     rw[e];exact .inr ⟨_,_,_,_,rfl,k⟩
 · obtain⟨x,g,e,k⟩:=ur ad
   rw[e];exact .inl ⟨_,_,_,_,rfl,k⟩
theorem yF{fk:Option p_}{o:Oper}{g:Operand->aT}{d:List bU}{q:bH}{h:aa}{K:qa}{eC:qb}(ad:(uq P inR call fk o g d q h K eC).p):jw (eA P inR call none o (λx=>(g x).den) d q h) K eC:=by
 unfold uq at ad
 split at ad
 · split at ad
   · rename_i v an he
     split at ad
     · exact jw.val (s:=.o v) he ad
     · exact jw.val (s:=.v v) he ad
   · rename_i v an he
     exact .inr ⟨v,d,q,an,by simp only[eA,e_,he],ad⟩
   · rename_i f args an he
     have:=Kx ad
     simpa only[eA,e_,he] using this
   · rename_i l args an he
     have:=Kx ad
     simpa only[eA,e_,he] using this
   · rename_i x he
     split at ad
     · cases ad
     · exact .inl ⟨.v (.aL []),_,_,_,by simp only[eA,e_,he];rfl,ad⟩
   · rename_i he
     split at ad
     · cases ad
     · split at ad
       · exact .inl ⟨.v .fy,_,_,_,by simp only[eA,e_,he];rfl,ad⟩
       · exact .inl ⟨.v .fy,_,_,_,by simp only[eA,e_,he];rfl,ad⟩
       · rename_i v
         exact .inl ⟨.v v,_,_,_,by simp only[eA,e_,he];rfl,ad⟩
   · cases ad
 · obtain⟨x,c,k⟩:=ur ad
   exact jw.val (tY c) k
 · obtain⟨x,an,c,k⟩:=ur ad
   exact jw.val (EA c) k
theorem SS{op:BinOp}{x y s:aT}(ad:EX op x y=some s)(h:aa)(t:TypeId)(a b:Operand):dr P h op t a b x.den y.den=some s.den:=by
 unfold EX at ad
 split at ad
 · rename_i k dM k' pP
   split at ad
   · rename_i ax
     obtain rfl:k=k':=of_decide_eq_true ax
     split at ad<;>first|(cases ad;done)|(cases ad;simp only[aT.den,dr,arith,if_true,aT.lu])
   · cases ad
 · cases ad
theorem SU{op:BinOp}{x y s:aT}{t:TypeId}(ad:EZ P op t x y=some s)(h:aa)(a b:Operand):dr P h op t a b x.den y.den=some s.den:=by
 unfold EZ at ad
 split at ad
 · rename_i ag hu
   rw[Bool.and_eq_true] at ag
   cases ad
   rw[aT.qc ag.1,aT.qc ag.2]
   simp only[dr,rJ,if_true,iT,hu,aT.den,fl]
 · rename_i ag hu
   rw[Bool.and_eq_true] at ag
   cases ad
   rw[aT.qc ag.1,aT.qc ag.2]
   simp only[dr,rJ,if_true,iT,hu,aT.den,aT.lu,fl]
 · cases ad
theorem SV{op:BinOp}{x y:aT}{p:Prop}{v:J}(ad:EY op x y=some (p,v))(aU:p)(h:aa)(t:TypeId)(a b:Operand):dr P h op t a b x.den y.den=some v:=by
 unfold EY at ad
 split at ad
 · rename_i k dM k' pP
   split at ad
   · rename_i ax;cases ad;obtain rfl:=of_decide_eq_true ax
     simp only[aT.den,dr,if_true];exact kF aU
   · rename_i ax;cases ad;obtain rfl:=of_decide_eq_true ax
     simp only[aT.den,dr,if_true];exact nu aU.1 aU.2
   · rename_i ax;cases ad;obtain rfl:=of_decide_eq_true ax
     simp only[aT.den,dr,if_true];exact uc aU
   · rename_i ax;cases ad;obtain rfl:=of_decide_eq_true ax
     simp only[aT.den,dr,if_true];exact ue aU
   · rename_i ax;cases ad;obtain rfl:=of_decide_eq_true ax
     simp only[aT.den,dr,if_true];exact Bx aU.1 aU.2
   · cases ad
 · split at ad
   · cases ad
     simp only[aT.den,dr];exact gx aU
   · cases ad
 · cases ad
theorem SW{fk:Option p_}{o:Oper}{g:Operand->aT}{d:List bU}{q:bH}{h:aa}{K:qa}{eC:qb}(ad:(E0 P inR call fk o g d q h K eC).p):jw (eA P inR call none o (λx=>(g x).den) d q h) K eC:=by
 unfold E0 at ad
 split at ad
 · rename_i x a7
   exact jw.val (s:=g x) (by simp only[c0,a7]) (aT.mT ad)
 · rename_i x a7
   exact jw.val (s:=g x) (by simp only[c0,a7]) (aT.mT ad)
 · rename_i t x a7
   split at ad
   · rename_i ag
     exact jw.val (s:=.cG (g x)) (by simp only[c0,a7,aT.qc ag];rfl) (aT.mT ad)
   · cases ad
 · rename_i op t x y yt a7
   replace ad:=aT.mT (aT.mT ad)
   have key:∀{s:aT},dr P h op t x y (g x).den (g y).den=some s.den->(K s d q h).p->jw (eA P inR call none o (λx=>(g x).den) d q h) K eC:=λ{s} e k=>jw.val (s:=s) (by simp only[c0,a7,e,gy]) k
   split at ad
   · rename_i s hs
     split at hs
     · rename_i a2 er;cases hs;exact key (SS er h t x y) ad
     · exact key (SU hs h x y) ad
   · split at ad
     · split at ad
       · rename_i v aJ;exact key (s:=v8 v) (by rw[Kq];exact aJ) (aT.mT ad)
       · cases ad
     · split at ad
       · rename_i p v aU
         cases fk with
         |none=>exact key (s:=.v v) (SV aU ad.1 h t x y) ad.2
         |some _=>cases aU
       · exact yF ad
 · rename_i x i a7
   split at ad
   · rename_i l aD
     split at ad
     · rename_i s hs
       exact jw.val (s:=s) (by simp only[c0,a7,aD,aT.den,Kr _ _ _ hs,gy]) (aT.mT ad)
     · cases ad
   · exact yF ad
 · rename_i t x i a7
   split at ad
   · rename_i m e b off n hu eR hi
     split at ad
     · rename_i sz bj
       exact jw.val (s:=.v (.ptr b (off+n*sz))) (by simp only[c0,a7,hu,eR,aT.den,hi,bj,if_pos ad.1]) ad.2
     · cases ad
   · rename_i e b off m c n hu eR hi
     split at ad
     · rename_i sz bj
       exact jw.val (s:=.v (.ptr b (off+n*sz))) (by simp only[c0,a7,hu,eR,aT.den,hi,bj,if_pos ad.1]) ad.2
     · cases ad
   · cases ad
 · rename_i t a x a7
   split at ad
   · rename_i b off n yG bj
     split at ad
     · rename_i aD
       obtain⟨aF,aG,ep,bJ,k⟩:=E4 (aT.mT ad)
       have ai:vR P o (λy=>(g y).den) h (.aL []) ep:=by
        unfold vR
        rw[a7]
        simp only[yG]
        rw[aF]
        exact⟨by rw[bj,Nat.eq_of_beq_eq_true aD],bJ,trivial⟩
       exact jw.val (s:=.v (.aL [])) (EA ai) k
     · cases ad
   · cases ad
 · rename_i e x a7
   obtain⟨aF,aG,k⟩:=E4 (aT.mT ad)
   exact jw.val (s:=.v (.ptr h.n 0)) (by simp only[c0,a7,newRow,aF,aG];rfl) k
 · rename_i c a7
   split at ad
   · rename_i jW
     split at ad
     · rename_i a t bl bh
       obtain⟨n,e,k⟩:=ad
       have ib:c.args.toList.map (λy=>(g y).den)=[a]:=by
        have:(c.args.toList.map g).map aT.den=[a]:=by rw[bl];rfl
        rw[List.map_map] at this;exact this
       have ai:o3 P o (λy=>(g y).den) h (.int .i64 (.ofNat n)):=by
        unfold o3
        rw[a7]
        simp only[jW,ib,bh]
        exact e
       exact jw.val (s:=.v (.int .i64 (.ofNat n))) (tY ai) k
     · exact yF ad
   · exact yF ad
 · exact yF ad
end
end aC
namespace aC
open Go
def keyOf(iZ i:Nat)(o:Oper):Nat:=match o.dst with
 |some t=>t
 |none=>3000+50*iZ+i
section
variable (P:Program) (need:Nat)
def lU(m:Nat)(env:List aT)(Γ:dC)(loc:List (Nat×Acc))(x:Operand):aT:=match mR m env Γ (c_ P need loc x) with
 |some s=>s
 |none=>.v .bad
def BF(m:Nat)(env:List aT)(Γ:dC)(loc:List (Nat×Acc))(o:Oper):Bool:=o.op.operands.toList.all λx=>(mR m env Γ (c_ P need loc x)).isSome
def BG(fk:Option Bool)(gd:Option (Acc×Bool))(m:Nat)(env:List aT)(Γ:dC)(wg wh:List aT->dC->dp):dp:=match gd with
 |none=>wg env Γ
 |some (a,b)=>match mR m env Γ a with
  |none=>bad "guard"
  |some s=>match s with
   |.v (.aL [])=>wh env Γ
   |s=>s.eL fk (v_ (v9 m a .kG env) λenv=>n9 (uk a .kG Γ) λΓ=>(match b with|true=>wg env Γ|false=>wh env Γ)) (v_ (v9 m a .kH env) λenv=>n9 (uk a .kH Γ) λΓ=>(match b with|true=>wh env Γ|false=>wg env Γ))
variable (inR:Bool) (call:aE->List J->aa->ao)
def yH(pl:lv)(key m:Nat)(env:List aT)(Γ:dC)(loc:List (Nat×Acc))(o:Oper)(d:List bU)(q:bH)(h:aa)(K:List aT->dC->qa)(eC:dC->qb):dp:=match o.op with
 |.pick c a b=>match mR m env Γ (c_ P need loc c) with
  |none=>bad "pick"
  |some s=>s.eL (BC (um (2000+key) pl)) (v_ (v9 m (c_ P need loc c) .kG env) λfX=>n9 (uk (c_ P need loc c) .kG Γ) λcx=>(lU P need m env Γ loc a).mS λx=>K fX cx x d q h) (v_ (v9 m (c_ P need loc c) .kH env) λfX=>n9 (uk (c_ P need loc c) .kH Γ) λcx=>(lU P need m env Γ loc b).mS λx=>K fX cx x d q h)
 |_=>E0 P inR call (um key pl) o (lU P need m env Γ loc) d q h (K env Γ) (eC Γ)
def yI(pl:lv)(iZ:Nat):List Step->List aT->dC->List bU->bH->aa->(List aT->dC->List bU->bH->aa->dp)->(J->dC->List bU->bH->aa->dp)->dp
 |[],env,Γ,d,q,h,K,_=>K env Γ d q h
 |s::rest,env,Γ,d,q,h,K,eC=>match BF P need s.m env Γ s.loc s.o with
  |false=>bad ("an operand " ++s.o.pos)
  |true=>BG (BC (um (1000+keyOf iZ s.m s.o) pl)) s.guard s.m env Γ
   (λenv Γ=>yH P need inR call pl (keyOf iZ s.m s.o) s.m env Γ s.loc s.o d q h (λenv Γ v d q h=>yI pl iZ rest (v::env) Γ d q h K eC) (λΓ v d q h=>eC v Γ d q h))
   (λenv Γ=>yI pl iZ rest (.v (.aL [])::env) Γ d q h K eC)
def uu(t:Nat):dC->dC
 |[]=>[]
 |(u,s)::l=>match Nat.beq t u with
  |true=>uu t l
  |false=>(u,s)::uu t l
def uv(m:Nat)(env:List aT)(g2:dC):List (Nat×Acc)->dC->dC
 |[],Γ=>Γ
 |(t,a)::l,Γ=>match Nat.testBit need t with
  |true=>match mR m env g2 a with
   |some s=>(t,s)::uu t (uv m env g2 l Γ)
   |none=>uu t (uv m env g2 l Γ)
  |false=>uv m env g2 l Γ
def yJ:List (Nat×Acc)->dC->dC
 |[],Γ=>Γ
 |(t,_)::l,Γ=>uu t (yJ l Γ)
abbrev nx:=List (Nat×Nat×aa×Nat)
def i_:nx->n7
 |[]=>[]
 |(e,m,h,_)::l=>(e,m,h)::i_ l
def BH(o:Oper)(g:Operand->aT):Bool:=match o.op with
 |.move _|.assign _|.pick .. |.build .. |.nilCheck _|.makeInterface .. |.makeFunc .. |.fieldAddr .. |.field .. |.indexAddr .. |.index .. |.extract .. |.typeAssert .. =>true
 |.unOp .. =>true
 |.binOp _ _ x y _=>match g x,g y with
  |.v (.int _ _),.v (.int _ _)=>true
  |.v (.str _),.v (.str _)=>true
  |x,y=>x.ug&&y.ug
 |.call c=>match c.callee with
  |.builtin .len=>match c.argTypes[0]? with
   |some t=>match P.underlying t with
    |some (.slice _)=>true
    |some .string=>true
    |_=>false
   |none=>false
  |_=>false
 |_=>false
def E5:aT->dp->dp
 |.o a,K=>g3 (a.sound=true) K
 |.kG,K|.kH,K|.lt _ _,K|.le _ _,K|.eq _ _,K|.cG _,K=>K
 |.v a,K=>match a.sound with
  |true=>K
  |false=>bad "sound"
 |.kI l,K=>match kD (aT.cQ l) with
  |true=>K
  |false=>bad "sound"
 |.k1 l,K=>match kD (aT.cQ l) with
  |true=>K
  |false=>bad "sound"
def wi(s:DStep)(hH:Nat):Option Nat->aa->Nat->nx->List (Option aa)
 |eF,h,cM,bg=>
  (match q2 s eF (i_ bg) with
   |true=>[]
   |false=>[match Nat.beq cM hH with|true=>none|false=>some h])++
  (match bg with
   |[]=>[]
   |(e,_,an,lV)::rest=>wi s hH (some e) an lV rest)
def wj(o:Oper)(g:Operand->J)(v:J)(su:Bool):List (Option aa)->dp->dp
 |[],K=>K
 |none::l,K=>wj o g v su l K
 |some h::l,K=>match su with
  |true=>wj o g v su l K
  |false=>g3 (o3 P o g h v) (wj o g v su l K)
def mh(ops:Array Oper)(n:Nat)(env:List aT)(ef:List Nat)(Γ:dC)(last:Option Nat)(h:aa)(cM:Nat)(bg:nx):List DStep->dp->dp
 |[],K=>K
 |s::rest,K=>match Nat.blt s.i n,kindOf P s.o.op with
  |true,.pure=>match ui (n-1-s.i) env,nth (n-1-s.i) ef with
   |some v,some hH=>match wi s hH last h cM bg with
    |[]=>mh ops n env ef Γ last h cM bg rest K
    |l=>match v with
     |.v (.aL [])=>match kR P need ops s.loc s.o with
      |some (a,b)=>match mR n env Γ a with
       |some (.v (.aL []))=>mh ops n env ef Γ last h cM bg rest K
       |some .kG=>match b with
        |false=>mh ops n env ef Γ last h cM bg rest K
        |true=>bad "look"
       |some .kH=>match b with
        |true=>mh ops n env ef Γ last h cM bg rest K
        |false=>bad "look"
       |_=>bad "look"
      |none=>bad "look"
     |v=>E5 v (wj P s.o (λx=>(lU P need n env Γ s.loc x).den) v.den (BH P s.o (lU P need n env Γ s.loc)) l (mh ops n env ef Γ last h cM bg rest K))
   |_,_=>bad "look"
  |_,_=>mh ops n env ef Γ last h cM bg rest K
def E6(op:Op)(g:Operand->aT)(b:Nat)(K:aT->cJ->dp):dp:=match op with
 |.box e x=>(g x).mS λs=>wa s (K (.v (.ptr b 0)) (.cells (uo s) e .own 0 0))
 |.makeSlice t l c=>match gb (g l).den with
  |some pV=>g4 λz:cJ=>g3 (JN P t (g l).den (g c).den b=some (.slice b 0 pV (match gb (g c).den with|some c'=>.exact c'|none=>.dead),z)) (K (.v (.slice b 0 pV (match gb (g c).den with|some c'=>.exact c'|none=>.dead))) z)
  |none=>bad "makeSlice"
 |op=>match lM P op (λx=>(g x).den) b with
  |some (v,o)=>K (.v v) o
  |none=>bad "alloc"
abbrev sv:=List aT->List Nat->dC->List bU->bH->aa->Nat->nx->dp
def sw(pl:lv)(iZ:Nat)(ops:Array Oper)(c5:Nat):List DStep->List aT->List Nat->dC->List bU->bH->aa->Nat->nx->sv->(J->sv)->dp
 |[],env,ef,Γ,d,q,h,cM,bg,K,_=>K env ef Γ d q h cM bg
 |s::rest,env,ef,Γ,d,q,h,cM,bg,K,eC=>match BF P need s.i env Γ s.loc s.o with
  |false=>bad ("an operand " ++s.o.pos)
  |true=>BG (BC (um (1000+keyOf iZ s.i s.o) pl)) (kR P need ops s.loc s.o) s.i env Γ
   (λenv Γ=>match kindOf P s.o.op with
    |.alloc=>E6 P s.o.op (lU P need s.i env Γ s.loc) (c5+s.i) λv o=>sw pl iZ ops c5 rest (v::env) (cM::ef) Γ d q (h.set (c5+s.i) (some o)) (cM+1) bg K eC
    |.pure=>yH P need inR call pl (keyOf iZ s.i s.o) s.i env Γ s.loc s.o d q h (λenv Γ v _ _ _=>sw pl iZ ops c5 rest (v::env) (cM::ef) Γ d q h cM bg K eC) (λ_ _ _ _ _=>bad "a panic")
    |.eY=>match tV s (i_ bg) with
     |false=>bad "order"
     |true=>yH P need inR call pl (keyOf iZ s.i s.o) s.i env Γ s.loc s.o d q h (λenv Γ v bO bE an=>sw pl iZ ops c5 rest (v::env) (cM::ef) Γ bO bE an (cM+1) ((s.i,s.fD,h,cM)::bg) K eC)
      (λΓ v bO bE an=>match rest.all (λa2=>Nat.testBit a2.fD s.i) with
       |true=>eC v env ef Γ bO bE an (cM+1) ((s.i,s.fD,h,cM)::bg)
       |false=>bad "panic"))
   (λenv Γ=>match kindOf P s.o.op with
    |.eY=>match tV s (i_ bg) with
     |false=>bad "order"
     |true=>sw pl iZ ops c5 rest (.v (.aL [])::env) (cM::ef) Γ d q h cM ((s.i,s.fD,h,cM)::bg) K eC
    |_=>sw pl iZ ops c5 rest (.v (.aL [])::env) (cM::ef) Γ d q h cM bg K eC)
end
end aC
namespace aC
open Go
section
variable {P:Program} {need:Nat} {inR:Bool} {call:aE->List J->aa->ao}
theorem E7{m:Nat}{env:List aT}{Γ:dC}{loc:List (Nat×Acc)}{x:Operand}:(lU P need m env Γ loc x).den=(hX m (aT.cQ env) (dd Γ) (c_ P need loc x)).getD .bad:=by
 rw[<-wb]
 unfold lU
 split<;>rename_i h<;>rw[h]<;>rfl
theorem Ky{m:Nat}{env:List aT}{Γ:dC}{loc:List (Nat×Acc)}{o:Oper}(h:BF P need m env Γ loc o=true):∀x∈o.op.operands,(hX m (aT.cQ env) (dd Γ) (c_ P need loc x)).isSome=true:=by
 intro x ad
 unfold BF at h
 rw[List.all_eq_true] at h
 have:=h x (by simpa using ad)
 rw[<-wb,Option.isSome_map];exact this
theorem E8{r:a0}{G:Env}(hm:Mod r G){m:Nat}{l:List J}{loc:List (Nat×Acc)}{o:Oper}(h:∀x∈o.op.operands,(hX m l G (c_ P need loc x)).isSome=true):∀x∈o.op.operands,ez m l r (c_ P need loc x)=(hX m l G (c_ P need loc x)).getD .bad:=by
 intro x ad
 obtain⟨v,aJ⟩:=Option.isSome_iff_exists.1 (h x ad)
 rw[wc hm aJ,aJ];rfl
def o9(m:Nat)(l:List J)(G:Env)(gd:Option (Acc×Bool))(W:Bool):Prop:=match gd with
 |none=>W=true
 |some (a,b)=>∃yK,hX m l G a=some yK/\e_ (some (yK,b))=some W
theorem o9.ok{m:Nat}{l:List J}{G:Env}{gd:Option (Acc×Bool)}{W:Bool}(h:o9 m l G gd W){r:a0}(hm:Mod r G):e_ (gd.map λx=>(ez m l r x.1,x.2))=some W:=by
 cases gd with
 |none=>cases h;rfl
 |some x=>
  obtain⟨yK,ab,ae⟩:=h
  simp only[Option.map_some,wc hm ab,ae]
theorem o9.more{m:Nat}{l:List J}{G:Env}{gd:Option (Acc×Bool)}{W:Bool}(h:o9 m l G gd W)(x:J):o9 (m+1) (x::l) G gd W:=by
 cases gd with
 |none=>exact h
 |some y=>
  obtain⟨yK,ab,ae⟩:=h
  exact⟨yK,yD x ab,ae⟩
theorem Kz{fk:Option Bool}{gd:Option (Acc×Bool)}{m:Nat}{env:List aT}{Γ:dC}{wg wh:List aT->dC->dp}(h:(BG fk gd m env Γ wg wh).p):
  ∃fX cx,aT.cQ fX=aT.cQ env/\dd cx=dd Γ/\fX.length=env.length/\(((wg fX cx).p/\o9 m (aT.cQ env) (dd Γ) gd true)\/((wh fX cx).p/\o9 m (aT.cQ env) (dd Γ) gd false)):=by
 unfold BG at h
 split at h
 · exact⟨env,Γ,rfl,rfl,rfl,.inl ⟨h,rfl⟩⟩
 · rename_i a b
   split at h
   · cases h
   · rename_i s hs
     have kB:hX m (aT.cQ env) (dd Γ) a=some s.den:=by rw[<-wb,hs];rfl
     split at h
     · exact⟨env,Γ,rfl,rfl,rfl,.inr ⟨h,_,kB,rfl⟩⟩
     · obtain⟨ag,ad⟩:=BE _ h
       have aj:=aT.qc ag
       rcases ad with⟨bh,ax⟩|⟨bh,ax⟩
       · rw[bh] at aj
         obtain⟨aF,aG,bJ⟩:=we (x:=.kG) hs aj
         refine⟨_,_,aF,aG,bJ,?_⟩
         have ax:=o8 (yE ax)
         cases b with
         |true=>exact .inl ⟨ax,_,kB,by rw[aj];rfl⟩
         |false=>exact .inr ⟨ax,_,kB,by rw[aj];rfl⟩
       · rw[bh] at aj
         obtain⟨aF,aG,bJ⟩:=we (x:=.kH) hs aj
         refine⟨_,_,aF,aG,bJ,?_⟩
         have ax:=o8 (yE ax)
         cases b with
         |true=>exact .inr ⟨ax,_,kB,by rw[aj];rfl⟩
         |false=>exact .inl ⟨ax,_,kB,by rw[aj];rfl⟩
theorem E9{pl:lv}{key m:Nat}{env:List aT}{Γ:dC}{loc:List (Nat×Acc)}{o:Oper}{d:List bU}{q:bH}{h:aa}{K:List aT->dC->qa}{eC:dC->qb}(ad:(yH P need inR call pl key m env Γ loc o d q h K eC).p):
  ∃fX cx,aT.cQ fX=aT.cQ env/\dd cx=dd Γ/\fX.length=env.length/\jw (eA P inR call none o (λx=>(hX m (aT.cQ env) (dd Γ) (c_ P need loc x)).getD .bad) d q h) (K fX cx) (eC cx):=by
 have au:(λx=>(hX m (aT.cQ env) (dd Γ) (c_ P need loc x)).getD .bad)=λx=>(lU P need m env Γ loc x).den:=funext λx=>E7.symm
 unfold yH at ad
 split at ad
 · rename_i c a b a7
   split at ad
   · cases ad
   · rename_i s hs
     obtain⟨ag,bu⟩:=BE _ ad
     have aj:=aT.qc ag
     have Bo:(lU P need m env Γ loc c).den=s.den:=by unfold lU;rw[hs]
     rw[au]
     rcases bu with⟨bh,ax⟩|⟨bh,ax⟩
     · rw[bh] at aj
       obtain⟨aF,aG,bJ⟩:=we (x:=.kG) hs aj
       exact⟨_,_,aF,aG,bJ,jw.val (s:=lU P need m env Γ loc a) (by simp only[c0,a7,Bo,aj]) (aT.mT (o8 (yE ax)))⟩
     · rw[bh] at aj
       obtain⟨aF,aG,bJ⟩:=we (x:=.kH) hs aj
       exact⟨_,_,aF,aG,bJ,jw.val (s:=lU P need m env Γ loc b) (by simp only[c0,a7,Bo,aj]) (aT.mT (o8 (yE ax)))⟩
 · rw[au]
   exact⟨env,Γ,rfl,rfl,rfl,SW ad⟩
theorem E_{r:a0}{s:Step}{rest:List Step}{env:List J}{d:List bU}{q:bH}{h:aa}:kS P need inR call r (s::rest) env d q h=match eA P inR call (s.guard.map λx=>(ez s.m env r x.1,x.2)) s.o (λx=>ez s.m env r (c_ P need s.loc x)) d q h with
  |.ok v bO bE an=>kS P need inR call r rest (v::env) bO bE an
  |.bp v bO bE an=>.bp v bO bE an
  |.fail w=>.fail w:=by
 obtain⟨gd,o,loc,m⟩:=s
 cases gd<;>rfl
theorem Fa{pl:lv}{iZ:Nat}:∀(l:List Step) (env:List aT) (Γ:dC) (d:List bU) (q:bH) (h:aa) {K:List aT->dC->List bU->bH->aa->dp} {eC:J->dC->List bU->bH->aa->dp},(yI P need inR call pl iZ l env Γ d q h K eC).p->
  (∃fX cx bO bE an,(∀r,Mod r (dd Γ)->kS P need inR call r l (aT.cQ env) d q h=.ok (aT.cQ fX) bO bE an)/\dd cx=dd Γ/\(K fX cx bO bE an).p)\/∃v cx bO bE an,(∀r,Mod r (dd Γ)->kS P need inR call r l (aT.cQ env) d q h=.bp v bO bE an)/\dd cx=dd Γ/\(eC v cx bO bE an).p
 |[],env,Γ,d,q,h,K,eC,ad=>.inl ⟨env,Γ,d,q,h,λ_ _=>rfl,rfl,ad⟩
 |s::rest,env,Γ,d,q,h,K,eC,ad=>by
  simp only[yI] at ad
  split at ad
  · cases ad
  · rename_i ax
    have h_:∀r,Mod r (dd Γ)->∀gd,eA P inR call gd s.o (λx=>ez s.m (aT.cQ env) r (c_ P need s.loc x)) d q h=eA P inR call gd s.o (λx=>(hX s.m (aT.cQ env) (dd Γ) (c_ P need s.loc x)).getD .bad) d q h:=λr hm gd=>tN (E8 hm (Ky ax))
    obtain⟨n_,hy,aF,aG,bJ,hw⟩:=Kz ad
    rcases hw with⟨hw,qd⟩|⟨hw,qd⟩
    · obtain⟨o_,Γ2,f1,f2,f3,a7⟩:=E9 hw
      rw[aF,aG] at a7
      rcases a7 with⟨x,d1,aY,ab,he,eg⟩|⟨v,d1,aY,ab,he,eg⟩
      · have bt:=Fa rest (x::o_) Γ2 d1 aY ab eg
        have key:∀r,Mod r (dd Γ)->kS P need inR call r (s::rest) (aT.cQ env) d q h=kS P need inR call r rest (aT.cQ (x::o_)) d1 aY ab:=λr hm=>by
         rw[E_,h_ r hm,vV (qd.ok hm),he]
         simp only[aT.cQ,f1,aF]
        rw[f2,aG] at bt
        rcases bt with⟨fX,cx,bO,bE,an,i1,i2,i3⟩|⟨v,cx,bO,bE,an,i1,i2,i3⟩
        · exact .inl ⟨fX,cx,bO,bE,an,λr hm=>(key r hm).trans (i1 r hm),i2,i3⟩
        · exact .inr ⟨v,cx,bO,bE,an,λr hm=>(key r hm).trans (i1 r hm),i2,i3⟩
      · refine .inr ⟨v,Γ2,d1,aY,ab,λr hm=>?_,f2.trans aG,eg⟩
        rw[E_,h_ r hm,vV (qd.ok hm),he]
    · have bt:=Fa rest (.v (.aL [])::n_) hy d q h hw
      have key:∀r,Mod r (dd Γ)->kS P need inR call r (s::rest) (aT.cQ env) d q h=kS P need inR call r rest (aT.cQ (.v (.aL [])::n_)) d q h:=λr hm=>by
       rw[E_,ym (qd.ok hm)]
       simp only[aT.cQ,aT.den,aF]
      rw[aG] at bt
      rcases bt with⟨fX,cx,bO,bE,an,i1,i2,i3⟩|⟨v,cx,bO,bE,an,i1,i2,i3⟩
      · exact .inl ⟨fX,cx,bO,bE,an,λr hm=>(key r hm).trans (i1 r hm),i2,i3⟩
      · exact .inr ⟨v,cx,bO,bE,an,λr hm=>(key r hm).trans (i1 r hm),i2,i3⟩
theorem yL(t:Nat):∀Γ:dC,dd (uu t Γ)=del t (dd Γ)
 |[]=>rfl
 |(u,s)::l=>by
  simp only[uu,dd,del]
  cases Nat.beq t u with
  |true=>exact yL t l
  |false=>simp only[dd];rw[yL t l]
theorem Fb{m:Nat}{env:List aT}{gw:a0}{g2:dC}(hm:Mod gw (dd g2)):∀(l:List (Nat×Acc)) (r:a0) (Γ:dC),Mod r (dd Γ)->Mod (qH need m (aT.cQ env) gw l r) (dd (uv need m env g2 l Γ))
 |[],r,Γ,h=>h
 |(t,a)::l,r,Γ,h=>by
  have bt:=Fb (m:=m) (env:=env) hm l r Γ h
  simp only[qH,uv]
  cases Nat.testBit need t with
  |false=>exact bt
  |true=>
   cases au:mR m env g2 a with
   |some s=>
    have:hX m (aT.cQ env) (dd g2) a=some s.den:=by rw[<-wb,au];rfl
    simp only[dd,yL]
    rw[wc hm this];exact bt.put t s.den
   |none=>simp only[yL];exact bt.del t _
theorem Fc:∀(l:List (Nat×Acc)) (r:a0) (Γ:dC),Mod r (dd Γ)->Mod (vj l r) (dd (yJ l Γ))
 |[],r,Γ,h=>h
 |(t,a)::l,r,Γ,h=>by simp only[yJ,yL];exact(Fc l r Γ h).del t _
theorem KA:∀(ops:List Oper) (n:Nat) (loc:List (Nat×Acc)) (hb:List Nat) (k:Nat) (s:DStep),(fK ops n loc hb)[k]? =some s->s.i=n+k
 |[],n,loc,hb,k,s,h=>by simp[fK] at h
 |o::l,n,loc,hb,0,s,h=>by simp only[fK,List.getElem?_cons_zero,Option.some.injEq] at h;rw[<-h];rfl
 |o::l,n,loc,hb,k+1,s,h=>by
  simp only[fK,List.getElem?_cons_succ] at h
  have:=KA l (n+1) _ _ k s h
  omega
def wk(P:Program)(need:Nat)(ops:Array Oper)(s:DStep)(n:Nat)(l:List J)(G:Env)(ef:List Nat)(H:Nat->aa):Prop:=s.i<n/\(kindOf P s.o.op=.pure->(∀x∈s.o.op.operands,(hX n l G (c_ P need s.loc x)).isSome=true)/\∀v hH,nth (n-1-s.i) l=some v->nth (n-1-s.i) ef=some hH->o9 n l G (kR P need ops s.loc s.o) false\/(o9 n l G (kR P need ops s.loc s.o) true/\∃an,c0 P s.o (λx=>(hX n l G (c_ P need s.loc x)).getD .bad) (H hH)=.val v an))
theorem SX{α:Type}{n i:Nat}(h:i<n)(x:α)(l:List α):nth (n+1-1-i) (x::l)=nth (n-1-i) l:=by
 have:n+1-1-i=(n-1-i)+1:=by omega
 rw[this];rfl
theorem KB{α:Type}:∀(n:Nat) (l:List α) (x:α),nth n l=some x->x∈l
 |0,[],_,h=>by cases h
 |_+1,[],_,h=>by cases h
 |0,y::l,x,h=>by cases h;exact List.mem_cons_self
 |n+1,y::l,x,h=>List.mem_cons_of_mem _ (KB n l x h)
theorem wk.more{ops:Array Oper}{s:DStep}{n:Nat}{l:List J}{G:Env}{ef:List Nat}{H bf:Nat->aa}(h:wk P need ops s n l G ef H)(x:J)(y:Nat)(fB:∀hH∈ef,bf hH=H hH):wk P need ops s (n+1) (x::l) G (y::ef) bf:=by
 obtain⟨ab,ae⟩:=h
 refine⟨by omega,λax=>?_⟩
 obtain⟨bx,bI⟩:=ae ax
 refine⟨λz bj=>?_,λv hH aJ mU=>?_⟩
 · obtain⟨w,hw⟩:=Option.isSome_iff_exists.1 (bx z bj)
   rw[yD x hw];rfl
 · rw[SX ab] at aJ mU
   rcases bI v hH aJ mU with e|⟨dc,an,e⟩
   · exact .inl (e.more x)
   · have SY:=KB _ _ _ mU
     refine .inr ⟨dc.more x,an,?_⟩
     rw[fB hH SY,<-e]
     exact x8 s.o _ λz bj=>by
      obtain⟨w,hw⟩:=Option.isSome_iff_exists.1 (bx z bj)
      rw[yD x hw,hw]
end
end aC
namespace aC
open Go
section
variable {P:Program} {need:Nat} {inR:Bool} {call:aE->List J->aa->ao}
theorem BI:∀l:List aT,(aT.cQ l).length=l.length
 |[]=>rfl
 |_::l=>by simp only[aT.cQ,List.length_cons,BI l]
structure ny(P:Program)(need:Nat)(ops:Array Oper)(pre:List DStep)(env:List aT)(ef:List Nat)(Γ:dC)(h:aa)(cM:Nat)(bg:nx)(H:Nat->aa):Prop where
 cur:H cM=h
 le:∀hH∈ef,hH<=cM
 st:∀z∈bg,z.2.2.2<=cM/\H z.2.2.2=z.2.2.1
 pl:pre.length=env.length
 seen:∀s∈pre,wk P need ops s env.length (aT.cQ env) (dd Γ) ef H
theorem ny.push{ops:Array Oper}{pre:List DStep}{env fX:List aT}{ef:List Nat}{Γ cx:dC}{h an:aa}{cM lV:Nat}{bg sx:nx}{H bf:Nat->aa}(w:ny P need ops pre env ef Γ h cM bg H){s:DStep}{v:aT}(hi:s.i=env.length)(aF:aT.cQ fX=aT.cQ env)(aG:dd cx=dd Γ)(bJ:fX.length=env.length)
  (fB:∀k,k<=cM->bf k=H k)(aJ:cM<=lV)(ai:bf lV=an)(hs:∀z∈sx,z.2.2.2<=lV/\bf z.2.2.2=z.2.2.1)
  (aU:kindOf P s.o.op=.pure->(∀x∈s.o.op.operands,(hX s.i (aT.cQ env) (dd Γ) (c_ P need s.loc x)).isSome=true)/\(o9 s.i (aT.cQ env) (dd Γ) (kR P need ops s.loc s.o) false\/(o9 s.i (aT.cQ env) (dd Γ) (kR P need ops s.loc s.o) true/\∃hI,c0 P s.o (λx=>(hX s.i (aT.cQ env) (dd Γ) (c_ P need s.loc x)).getD .bad) h=.val v.den hI))):
  ny P need ops (pre++[s]) (v::fX) (cM::ef) cx an lV sx bf:=by
 refine⟨ai,λhH mU=>?_,hs,by simp[w.pl,bJ],λz bj=>?_⟩
 · rcases List.mem_cons.1 mU with rfl|mU
   · exact aJ
   · exact Nat.le_trans (w.le hH mU) aJ
 · rw[List.length_cons,bJ,aG]
   simp only[aT.cQ,aF]
   rcases List.mem_append.1 bj with bj|bj
   · exact(w.seen z bj).more _ _ λhH mU=>fB hH (w.le hH mU)
   · obtain rfl:z=s:=by simpa using bj
     refine⟨by omega,λax=>?_⟩
     obtain⟨bx,bI⟩:=aU ax
     rw[hi] at bx bI
     refine⟨λx ad=>?_,λu hH hu mU=>?_⟩
     · obtain⟨y,bu⟩:=Option.isSome_iff_exists.1 (bx x ad)
       rw[yD _ bu];rfl
     · have az:env.length+1-1-z.i=0:=by omega
       rw[az] at hu mU
       cases hu;cases mU
       rcases bI with bI|⟨kd,hI,bI⟩
       · exact .inl (bI.more _)
       · refine .inr ⟨kd.more _,hI,?_⟩
         rw[fB cM (Nat.le_refl _),w.cur,<-bI]
         exact x8 _ _ λx ad=>by
          obtain⟨y,bu⟩:=Option.isSome_iff_exists.1 (bx x ad)
          rw[yD _ bu,bu]
theorem yM{ops:Array Oper}{r:a0}{n:Nat}{env:List J}{s:DStep}:hD P need ops r n env s=(kR P need ops s.loc s.o).map λx=>(ez n env r x.1,x.2):=by
 unfold hD
 cases kR P need ops s.loc s.o<;>rfl
def KC:fc->Prop
 |.val _ _=>True
 |.bp _ _=>True
 |.fail _=>True
 |_=>False
theorem SZ{o:Oper}{g:Operand->J}{H:aa}(ax:kindOf P o.op=.pure):KC (c0 P o g H):=by
 have hF:∀(w:String) (x:Option J),KC (gy H w x):=λw x=>by cases x<;>trivial
 obtain⟨dst,op,type,pos,after,guard⟩:=o
 cases op<;>simp only[kindOf] at ax<;>(try (cases ax;done))<;>unfold c0<;>simp only
 case binOp=>exact hF _ _
 case slice=>exact hF _ _
 case lookup=>exact hF _ _
 case convert s d x=>
  have eb:∀e,P.underlying d≠some (.slice e):=λe he=>by rw[he] at ax;cases ax
  unfold ec
  repeat' (first|trivial|exact absurd (by assumption) (eb _)|split)
 case call c=>
  cases ai:c.callee with
  |value f=>rw[ai] at ax;cases ax
  |invoke r n=>rw[ai] at ax;cases ax
  |builtin b=>
   rw[ai] at ax
   cases b<;>simp only at ax<;>(try (cases ax;done))<;>simp only[jn]<;>repeat' (first|trivial|exact hF _ _|split)
 all_goals repeat' (first|trivial|exact hF _ _|split)
theorem S0{o:Oper}{g:Operand->J}{d d1:List bU}{q aY:bH}{h ab:aa}{v:J}(ax:kindOf P o.op=.pure)(e:eA P inR call none o g d q h=.ok v d1 aY ab):∃an,c0 P o g h=.val v an:=by
 have aJ:=SZ (P:=P) (g:=g) (H:=h) ax
 unfold eA at e
 simp only[e_] at e
 cases a7:c0 P o g h<;>rw[a7] at e aJ<;>first|(exact aJ.elim)|(cases e;done)|(cases e;exact⟨_,rfl⟩)
theorem S1{op:Op}{g:Operand->aT}{b:Nat}{K:aT->cJ->dp}(h:(E6 P op g b K).p):∃s o,lM P op (λx=>(g x).den) b=some (aT.den s,o)/\(K s o).p:=by
 unfold E6 at h
 split at h
 · rename_i e x
   obtain⟨aF,aG,k⟩:=E4 (aT.mT h)
   exact⟨_,_,by simp only[lM,aF,aG];rfl,k⟩
 · rename_i t l c
   split at h
   · obtain⟨z,bj,k⟩:=h
     exact⟨_,_,JP (op:=.makeSlice t l c) (v:=aT.den (.v _)) bj,k⟩
   · cases h
 · split at h
   · rename_i v o aJ
     exact⟨.v v,o,aJ,h⟩
   · cases h
def q5(H:Nat->aa)(k:Nat)(h:aa)(j:Nat):aa:=if j=k then h else H j
def qe(P:Program)(need:Nat)(inR:Bool)(call:aE->List J->aa->ao)(ops:Array Oper)(c5:Nat)(full l:List DStep)(env:List aT)(G:Env)(d:List bU)(q:bH)(h:aa)(bg:nx)(K:sv)(eC:J->sv):Prop:=
 (∃fX sy cx bO bE an lV sx bf,(∀r,Mod r G->gT P need inR call ops r c5 l (aT.cQ env) d q h (i_ bg)=.ok (aT.cQ fX) bO bE an (i_ sx))/\dd cx=G/\ny P need ops full fX sy cx an lV sx bf/\(K fX sy cx bO bE an lV sx).p)\/
 ∃v fX sy cx bO bE an lV e m az wm sk bf yN,(∀r,Mod r G->gT P need inR call ops r c5 l (aT.cQ env) d q h (i_ bg)=.bp v (aT.cQ fX) bO bE an (i_ ((e,m,az,wm)::sk)))/\dd cx=G/\ny P need ops yN fX sy cx az wm sk bf/\(∃post,full=yN++post)/\(eC v fX sy cx bO bE an lV ((e,m,az,wm)::sk)).p
theorem qe.trans{ops:Array Oper}{c5:Nat}{full l bQ:List DStep}{env o_:List aT}{G:Env}{d d2:List bU}{q aR:bH}{h ae:aa}{bg KD:nx}{K:sv}{eC:J->sv}(ax:∀r,Mod r G->gT P need inR call ops r c5 l (aT.cQ env) d q h (i_ bg)=gT P need inR call ops r c5 bQ (aT.cQ o_) d2 aR ae (i_ KD))(he:qe P need inR call ops c5 full bQ o_ G d2 aR ae KD K eC):qe P need inR call ops c5 full l env G d q h bg K eC:=by
 rcases he with⟨dG,eJ,h8,lx,oc,yO,wo,sA,yP,bw,bM,dT,kJ⟩|⟨dG,eJ,h8,lx,oc,yO,wo,sA,yP,a8,aW,ds,ja,ly,jx,bw,bM,dT,kJ,KE⟩
 · exact .inl ⟨dG,eJ,h8,lx,oc,yO,wo,sA,yP,λr hm=>(ax r hm).trans (bw r hm),bM,dT,kJ⟩
 · exact .inr ⟨dG,eJ,h8,lx,oc,yO,wo,sA,yP,a8,aW,ds,ja,ly,jx,λr hm=>(ax r hm).trans (bw r hm),bM,dT,kJ,KE⟩
theorem uw{ops:Array Oper}{r:a0}{c5:Nat}{s:DStep}{rest:List DStep}{env:List J}{d:List bU}{q:bH}{h:aa}{bg:n7}:gT P need inR call ops r c5 (s::rest) env d q h bg=
  match kindOf P s.o.op with
  |.alloc=>match e_ (hD P need ops r s.i env s) with
   |none=>.fail ("guard " ++s.o.pos)
   |some false=>gT P need inR call ops r c5 rest (.aL []::env) d q h bg
   |some true=>match lM P s.o.op (λx=>ez s.i env r (c_ P need s.loc x)) (c5+s.i) with
    |some (v,o)=>gT P need inR call ops r c5 rest (v::env) d q (h.set (c5+s.i) (some o)) bg
    |none=>.fail ("alloc " ++s.o.pos)
  |.pure=>match eA P inR call (hD P need ops r s.i env s) s.o (λx=>ez s.i env r (c_ P need s.loc x)) d q h with
   |.ok v _ _ _=>gT P need inR call ops r c5 rest (v::env) d q h bg
   |.bp _ _ _ _=>.fail ("pure " ++s.o.pos)
   |.fail w=>.fail w
  |.eY=>match tV s bg with
   |false=>.fail ("order " ++s.o.pos)
   |true=>match eA P inR call (hD P need ops r s.i env s) s.o (λx=>ez s.i env r (c_ P need s.loc x)) d q h with
    |.ok v bO bE an=>gT P need inR call ops r c5 rest (v::env) bO bE an ((s.i,s.fD,h)::bg)
    |.bp v bO bE an=>match rest.all (λa2=>Nat.testBit a2.fD s.i) with
     |true=>.bp v env bO bE an ((s.i,s.fD,h)::bg)
     |false=>.fail ("panic " ++s.o.pos)
    |.fail w=>.fail w:=by
 cases bg<;>rfl
theorem ux{pl:lv}{iZ:Nat}{ops:Array Oper}{c5:Nat}{full:List DStep}(qf:∀(k:Nat) (s:DStep),full[k]? =some s->s.i=k){K:sv}{eC:J->sv}:∀(l pre:List DStep) (env:List aT) (ef:List Nat) (Γ:dC) (d:List bU) (q:bH) (h:aa) (cM:Nat) (bg:nx) (H:Nat->aa),full=pre++l->ny P need ops pre env ef Γ h cM bg H->(sw P need inR call pl iZ ops c5 l env ef Γ d q h cM bg K eC).p->qe P need inR call ops c5 full l env (dd Γ) d q h bg K eC
 |[],pre,env,ef,Γ,d,q,h,cM,bg,H,hf,w,ad=>by
  rw[List.append_nil] at hf
  subst hf
  exact .inl ⟨env,ef,Γ,d,q,h,cM,bg,H,λ_ _=>rfl,rfl,w,ad⟩
 |s::rest,pre,env,ef,Γ,d,q,h,cM,bg,H,hf,w,ad=>by
  have hi:s.i=env.length:=by
   rw[<-w.pl]
   exact qf pre.length s (by rw[hf];simp)
  have wq:full=(pre++[s])++rest:=by rw[hf];simp
  simp only[sw] at ad
  split at ad
  · cases ad
  · rename_i ax
    have uy:=Ky ax
    have au:∀r,Mod r (dd Γ)->∀x∈s.o.op.operands,ez s.i (aT.cQ env) r (c_ P need s.loc x)=(hX s.i (aT.cQ env) (dd Γ) (c_ P need s.loc x)).getD .bad:=λr hm=>E8 hm uy
    have h_:∀r,Mod r (dd Γ)->∀gd,eA P inR call gd s.o (λx=>ez s.i (aT.cQ env) r (c_ P need s.loc x)) d q h=eA P inR call gd s.o (λx=>(hX s.i (aT.cQ env) (dd Γ) (c_ P need s.loc x)).getD .bad) d q h:=λr hm gd=>tN (au r hm)
    obtain⟨n_,hy,aF,aG,bJ,hw⟩:=Kz ad
    have lp:∀z∈bg,z.2.2.2<=cM/\H z.2.2.2=z.2.2.1:=w.st
    rcases hw with⟨hw,qd⟩|⟨hw,qd⟩
    · have sB:∀r,Mod r (dd Γ)->e_ (hD P need ops r s.i (aT.cQ env) s)=some true:=λr hm=>by rw[yM];exact qd.ok hm
      split at hw
      · rename_i hV
        obtain⟨v,o,bl,eg⟩:=S1 hw
        have S2:lM P s.o.op (λx=>(hX s.i (aT.cQ env) (dd Γ) (c_ P need s.loc x)).getD .bad) (c5+s.i)=some (v.den,o):=by
         rw[<-bl];congr 1;exact funext λx=>by rw[E7,aF,aG]
        have b3:ny P need ops (pre++[s]) (v::n_) (cM::ef) hy (h.set (c5+s.i) (some o)) (cM+1) bg (q5 H (cM+1) (h.set (c5+s.i) (some o))):=
         w.push hi aF aG bJ (λk ax=>by unfold q5;rw[if_neg (by omega)]) (by omega) (by unfold q5;rw[if_pos rfl]) (λz bj=>by
          obtain⟨ff,fN⟩:=lp z bj
          exact⟨by omega,by unfold q5;rw[if_neg (by omega)];exact fN⟩) (λaU=>by rw[hV] at aU;cases aU)
        have bt:=ux qf rest (pre++[s]) (v::n_) (cM::ef) hy d q _ (cM+1) bg _ wq b3 eg
        rw[aG] at bt
        refine qe.trans (λr hm=>?_) bt
        rw[uw,hV]
        simp only[sB r hm]
        rw[x9 _ _ (au r hm),S2]
        simp only[aT.cQ,aF]
      · rename_i hV
        obtain⟨o_,Γ2,f1,f2,f3,a7⟩:=E9 hw
        rw[aF,aG] at a7
        rcases a7 with⟨x,d1,aY,ab,he,eg⟩|⟨v,d1,aY,ab,he,eg⟩
        · have hc:=S0 hV he
          have b3:ny P need ops (pre++[s]) (x::o_) (cM::ef) Γ2 h cM bg H:=
           w.push hi (f1.trans aF) (f2.trans aG) (f3.trans bJ) (λk ax=>rfl) (Nat.le_refl _) w.cur lp (λ_=>⟨uy,.inr ⟨qd,hc⟩⟩)
          have bt:=ux qf rest (pre++[s]) (x::o_) (cM::ef) Γ2 d q h cM bg H wq b3 eg
          rw[f2,aG] at bt
          refine qe.trans (λr hm=>?_) bt
          rw[uw,hV]
          simp only
          rw[h_ r hm,vV (sB r hm),he]
          simp only[aT.cQ,f1,aF]
        · cases eg
      · rename_i hV
        split at hw
        · cases hw
        · rename_i me
          obtain⟨o_,Γ2,f1,f2,f3,a7⟩:=E9 hw
          rw[aF,aG] at a7
          rcases a7 with⟨x,d1,aY,ab,he,eg⟩|⟨v,d1,aY,ab,he,eg⟩
          · have b3:ny P need ops (pre++[s]) (x::o_) (cM::ef) Γ2 ab (cM+1) ((s.i,s.fD,h,cM)::bg) (q5 H (cM+1) ab):=
              w.push hi (f1.trans aF) (f2.trans aG) (f3.trans bJ) (λk ax=>by unfold q5;rw[if_neg (by omega)]) (by omega) (by unfold q5;rw[if_pos rfl]) (λz bj=>by
               rcases List.mem_cons.1 bj with rfl|bj
               · exact⟨by simp,by unfold q5;rw[if_neg (by simp)];exact w.cur⟩
               · obtain⟨ff,fN⟩:=lp z bj
                 exact⟨by omega,by unfold q5;rw[if_neg (by omega)];exact fN⟩) (λaU=>by rw[hV] at aU;cases aU)
            have bt:=ux qf rest (pre++[s]) (x::o_) (cM::ef) Γ2 d1 aY ab (cM+1) _ _ wq b3 eg
            rw[f2,aG] at bt
            refine qe.trans (λr hm=>?_) bt
            rw[uw,hV]
            simp only[me]
            rw[h_ r hm,vV (sB r hm),he]
            simp only[aT.cQ,f1,aF,i_]
          · split at eg
            · rename_i gm
              refine .inr ⟨v,n_,ef,Γ2,d1,aY,ab,cM+1,s.i,s.fD,h,cM,bg,H,pre,λr hm=>?_,f2.trans aG,?_,⟨_,hf⟩,eg⟩
              · rw[uw,hV]
                simp only[me]
                rw[h_ r hm,vV (sB r hm),he]
                simp only[gm,i_,aF]
              · exact⟨w.cur,w.le,w.st,w.pl.trans bJ.symm,by rw[f2,aG,aF,bJ];exact w.seen⟩
            · cases eg
    · have sB:∀r,Mod r (dd Γ)->e_ (hD P need ops r s.i (aT.cQ env) s)=some false:=λr hm=>by rw[yM];exact qd.ok hm
      cases hV:kindOf P s.o.op with
      |eY=>
       rw[hV] at hw
       simp only at hw
       split at hw
       · cases hw
       · rename_i me
         have b3:ny P need ops (pre++[s]) (.v (.aL [])::n_) (cM::ef) hy h cM ((s.i,s.fD,h,cM)::bg) H:=
          w.push hi aF aG bJ (λk ax=>rfl) (Nat.le_refl _) w.cur (λz bj=>by
           rcases List.mem_cons.1 bj with rfl|bj
           · exact⟨Nat.le_refl _,w.cur⟩
           · exact lp z bj) (λaU=>by rw[hV] at aU;cases aU)
         have bt:=ux qf rest (pre++[s]) (.v (.aL [])::n_) (cM::ef) hy d q h cM _ H wq b3 hw
         rw[aG] at bt
         refine qe.trans (λr hm=>?_) bt
         rw[uw,hV]
         simp only[me]
         rw[ym (sB r hm)]
         simp only[aT.cQ,aT.den,aF,i_]
      |alloc=>
       rw[hV] at hw
       simp only at hw
       have b3:ny P need ops (pre++[s]) (.v (.aL [])::n_) (cM::ef) hy h cM bg H:=
        w.push hi aF aG bJ (λk ax=>rfl) (Nat.le_refl _) w.cur lp (λaU=>by rw[hV] at aU;cases aU)
       have bt:=ux qf rest (pre++[s]) (.v (.aL [])::n_) (cM::ef) hy d q h cM bg H wq b3 hw
       rw[aG] at bt
       refine qe.trans (λr hm=>?_) bt
       rw[uw,hV]
       simp only[sB r hm]
       simp only[aT.cQ,aT.den,aF]
      |pure=>
       rw[hV] at hw
       simp only at hw
       have b3:ny P need ops (pre++[s]) (.v (.aL [])::n_) (cM::ef) hy h cM bg H:=
        w.push hi aF aG bJ (λk ax=>rfl) (Nat.le_refl _) w.cur lp (λ_=>⟨uy,.inl qd⟩)
       have bt:=ux qf rest (pre++[s]) (.v (.aL [])::n_) (cM::ef) hy d q h cM bg H wq b3 hw
       rw[aG] at bt
       refine qe.trans (λr hm=>?_) bt
       rw[uw,hV]
       simp only
       rw[ym (sB r hm)]
       simp only[aT.cQ,aT.den,aF]
end
end aC
namespace aC
open Go
section
variable {P:Program} {need:Nat} {inR:Bool} {call:aE->List J->aa->ao}
theorem S3{o:Oper}{g:Operand->aT}(aD:BH P o g=true){h ab:aa}{v:J}(e:c0 P o (λx=>(g x).den) h=.val v ab)(an:aa):∃ae,c0 P o (λx=>(g x).den) an=.val v ae:=by
 have hF:∀{w:String} {x:Option J},gy h w x=.val v ab->∃ae,gy an w x=.val v ae:=λ{w x} e=>by
  cases x with
  |none=>cases e
  |some y=>cases e;exact⟨_,rfl⟩
 obtain⟨dst,op,type,pos,after,guard⟩:=o
 cases op<;>simp only[BH] at aD<;>(try (cases aD;done))<;>unfold c0 at e⊢ <;>simp only at e⊢
 case binOp op t x y yt=>
  split at aD
  · rename_i k a k' b ad bu
    rw[ad,bu] at e⊢
    simp only[aT.den,dr] at e⊢
    exact hF e
  · rename_i a b ad bu
    rw[ad,bu] at e⊢
    simp only[aT.den,dr] at e⊢
    exact hF e
  · rw[Bool.and_eq_true] at aD
    rw[aT.qc aD.1,aT.qc aD.2] at e⊢
    have ah:dr P an op t x y (.bool (g x).lu) (.bool (g y).lu)=dr P h op t x y (.bool (g x).lu) (.bool (g y).lu):=by
     simp only[dr,iT]
    rw[ah];exact hF e
 case call c=>
  split at aD
  · rename_i ai
    rw[ai] at e⊢
    simp only[jn] at e⊢
    split at aD
    · rename_i t bh
      rw[bh] at e⊢
      cases ib:c.args.toList.map λx=>(g x).den with
      |nil=>rw[ib] at e;cases e
      |cons x l=>
       rw[ib] at e
       cases l with
       |nil=>
        simp only at e⊢
        split at aD
        · rename_i el hu
          simp only[cq,hu] at e⊢
          cases x<;>simp only at e⊢ <;>exact hF e
        · rename_i hu
          simp only[cq,hu] at e⊢
          cases x<;>simp only at e⊢ <;>exact hF e
        · cases aD
       |cons y l=>
        cases l with
        |nil=>simp only at e;cases e
        |cons z l=>simp only at e;cases e
    · cases aD
  · cases aD
 case typeAssert=>repeat' (first|contradiction|exact hF e|(cases e;done)|(cases e;exact⟨_,rfl⟩)|(cases e;simp_all;done)|split at e)
 all_goals repeat' (first|contradiction|exact hF e|(cases e;exact⟨_,rfl⟩)|(rw[if_pos (by assumption)];first|exact hF e|(cases e;exact⟨_,rfl⟩))|(cases e;done)|split at e)
theorem KF{s:aT}{K:dp}(h:(E5 s K).p):s.den.sound=true/\K.p:=by
 cases s<;>simp only[E5] at h<;>first|exact⟨rfl,h⟩|exact h|skip
 all_goals
  split at h
  · rename_i hs;exact⟨hs,h⟩
  · cases h
theorem yQ{o:Oper}{g:Operand->J}{v:J}{su:Bool}{K:dp}:∀(l:List (Option aa)),(wj P o g v su l K).p->K.p/\(su=false->∀h,some h∈l->o3 P o g h v)
 |[],h=>⟨h,λ_ _ hm=>by cases hm⟩
 |none::l,h=>by
  obtain⟨ab,ae⟩:=yQ l h
  exact⟨ab,λaM an hm=>by
   rcases List.mem_cons.1 hm with e|hm
   · cases e
   · exact ae aM an hm⟩
 |some x::l,h=>by
  simp only[wj] at h
  cases su with
  |true=>
   obtain⟨ab,ae⟩:=yQ l h
   exact⟨ab,λaM=>by cases aM⟩
  |false=>
   obtain⟨az,h⟩:=h
   obtain⟨ab,ae⟩:=yQ l h
   exact⟨ab,λaM an hm=>by
    rcases List.mem_cons.1 hm with e|hm
    · cases e;exact az
    · exact ae aM an hm⟩
theorem KG{ops:Array Oper}{r:a0}{n:Nat}{env:List J}{s:DStep}{v:J}{hH:Nat}{H:Nat->aa}:∀(bg:nx) (eF:Option Nat) (h:aa) (cM:Nat),H cM=h->(∀z∈bg,H z.2.2.2=z.2.2.1)->(∀o∈wi s hH eF h cM bg,mB P need ops r n env s v (match o with|none=>H hH|some h=>h)=true)->lN P need ops r n env s v eF h (i_ bg)=true
 |[],eF,h,cM,ah,hs,aD=>by
  simp only[i_]
  rw[Bp]
  simp only[wi] at aD
  cases ag:q2 s eF [] with
  |true=>rfl
  |false=>
   rw[show q2 s eF (i_ [])=false from ag] at aD
   simp only[Bool.and_true]
   cases aJ:Nat.beq cM hH with
   |true=>
    have:=aD none (by rw[aJ];simp)
    obtain rfl:=Nat.eq_of_beq_eq_true aJ
    rw[<-ah];exact this
   |false=>exact aD (some h) (by rw[aJ];simp)
 |(e,m,an,lV)::rest,eF,h,cM,ah,hs,aD=>by
  simp only[i_]
  rw[Bp]
  simp only[wi] at aD
  have bt:=KG (ops:=ops) (r:=r) (n:=n) (env:=env) (v:=v) rest (some e) an lV (hs _ List.mem_cons_self) (λz bj=>hs z (List.mem_cons_of_mem _ bj)) λo a7=>aD o (List.mem_append.2 (.inr a7))
  simp only[]
  rw[bt,Bool.and_true]
  cases ag:q2 s eF ((e,m,an)::i_ rest) with
  |true=>rfl
  |false=>
   rw[show q2 s eF (i_ ((e,m,an,lV)::rest))=false from ag] at aD
   simp only
   cases aJ:Nat.beq cM hH with
   |true=>
    have:=aD none (List.mem_append.2 (.inl (by rw[aJ];simp)))
    obtain rfl:=Nat.eq_of_beq_eq_true aJ
    rw[<-ah];exact this
   |false=>exact aD (some h) (List.mem_append.2 (.inl (by rw[aJ];simp)))
theorem Fe{ops:Array Oper}{r:a0}{n:Nat}{env:List aT}{ef:List Nat}{Γ:dC}(hm:Mod r (dd Γ)){last:Option Nat}{h:aa}{cM:Nat}{bg:nx}{H:Nat->aa}(fB:H cM=h)(cL:∀z∈bg,H z.2.2.2=z.2.2.1){K:dp}:∀(l:List DStep),(∀s∈l,s.i<n->wk P need ops s n (aT.cQ env) (dd Γ) ef H)->(mh P need ops n env ef Γ last h cM bg l K).p->l_ P need ops r n (aT.cQ env) last h (i_ bg) l=true
 |[],_,_=>rfl
 |s::rest,hs,ad=>by
  simp only[l_]
  simp only[mh] at ad
  have Am:=λ(k:(mh P need ops n env ef Γ last h cM bg rest K).p)=>Fe hm fB cL rest (λz bj=>hs z (List.mem_cons_of_mem _ bj)) k
  split at ad
  · rename_i ag hV
    have hi:s.i<n:=by simpa using ag
    obtain⟨_,S4⟩:=hs s List.mem_cons_self hi
    obtain⟨uy,pZ⟩:=S4 hV
    rw[ag,hV]
    simp only
    split at ad
    · rename_i v hH aJ mU
      have KH:nth (n-1-s.i) (aT.cQ env)=some v.den:=Kr _ _ _ aJ
      rw[KH]
      simp only[Option.getD_some]
      have fin:∀(ax:(mh P need ops n env ef Γ last h cM bg rest K).p),(∀o∈wi s hH last h cM bg,mB P need ops r n (aT.cQ env) s v.den (match o with|none=>H hH|some h=>h)=true)->(lN P need ops r n (aT.cQ env) s v.den last h (i_ bg)&&l_ P need ops r n (aT.cQ env) last h (i_ bg) rest)=true:=λax a7=>by
       rw[Am ax,Bool.and_true]
       exact KG bg last h cM fB cL a7
      split at ad
      · rename_i tG
        exact fin ad λo a7=>by rw[tG] at a7;cases a7
      · split at ad
        ·
         have Ff:e_ (hD P need ops r n (aT.cQ env) s)=some false->∀an,mB P need ops r n (aT.cQ env) s (aT.den (.v (.aL []))) an=true:=λhw an=>by
          unfold mB;rw[hw]
         split at ad
         · rename_i a b yG
           have aj:∀(x:aT),mR n env Γ a=some x->hD P need ops r n (aT.cQ env) s=some (x.den,b):=λx ad=>by
            have kB:hX n (aT.cQ env) (dd Γ) a=some x.den:=by rw[<-wb,ad];rfl
            rw[yM,yG]
            simp only[Option.map_some,wc hm kB]
           split at ad
           · rename_i tQ
             exact fin ad λo _=>Ff (by rw[aj _ tQ];rfl) _
           · rename_i tQ
             cases b with
             |false=>exact fin ad λo _=>Ff (by rw[aj _ tQ];rfl) _
             |true=>cases ad
           · rename_i tQ
             cases b with
             |true=>exact fin ad λo _=>Ff (by rw[aj _ tQ];rfl) _
             |false=>cases ad
           · cases ad
         · cases ad
        · rename_i eb
          obtain⟨fF,ad⟩:=KF ad
          obtain⟨ad,S5⟩:=yQ _ ad
          have hS:(λx=>(lU P need n env Γ s.loc x).den)=λx=>(hX n (aT.cQ env) (dd Γ) (c_ P need s.loc x)).getD .bad:=funext λx=>E7
          refine fin ad λo a7=>?_
          rcases pZ v.den hH KH mU with e|⟨dc,e⟩
          · have hw:e_ (hD P need ops r n (aT.cQ env) s)=some false:=by rw[yM];exact e.ok hm
            unfold mB;rw[hw]
          · have hw:e_ (hD P need ops r n (aT.cQ env) s)=some true:=by rw[yM];exact dc.ok hm
            have look:∀an,(∃hI,c0 P s.o (λx=>(lU P need n env Γ s.loc x).den) an=.val v.den hI)->mB P need ops r n (aT.cQ env) s v.den an=true:=λan ⟨hI,e⟩=>by
             have S6:c0 P s.o (λx=>ez n (aT.cQ env) r (c_ P need s.loc x)) an=.val v.den hI:=by
              rw[<-e,hS]
              exact x8 s.o an (E8 hm uy)
             unfold mB
             simp only[hw,S6]
             exact tZ _ fF
            rw[<-hS] at e
            cases o with
            |none=>exact look _ e
            |some an=>
             refine look an ?_
             cases ah:BH P s.o (lU P need n env Γ s.loc) with
             |true=>
              obtain⟨ab,e⟩:=e
              exact S3 ah e an
             |false=>exact⟨an,tY (S5 ah an a7)⟩
    · cases ad
  · rename_i tL
    have ad:=Am ad
    rw[ad,Bool.and_true]
    cases ag:Nat.blt s.i n with
    |false=>rfl
    |true=>
     cases ax:kindOf P s.o.op with
     |pure=>exact absurd ax (tL ag)
     |alloc=>rfl
     |eY=>rfl
theorem Fg{ops:Array Oper}{n:Nat}{env:List aT}{ef:List Nat}{Γ:dC}{last:Option Nat}{h:aa}{cM:Nat}{bg:nx}{K:dp}:∀(l:List DStep),(mh P need ops n env ef Γ last h cM bg l K).p->K.p
 |[],ad=>ad
 |s::rest,ad=>by
  have bt:(mh P need ops n env ef Γ last h cM bg rest K).p->K.p:=λk=>Fg rest k
  simp only[mh] at ad
  split at ad
  · split at ad
    · split at ad
      · exact bt ad
      · split at ad
        · split at ad
          · split at ad
            · exact bt ad
            · split at ad
              · exact bt ad
              · cases ad
            · split at ad
              · exact bt ad
              · cases ad
            · cases ad
          · cases ad
        · exact bt (yQ _ (KF ad).2).1
    · cases ad
  · exact bt ad
def KI(P:Program)(need:Nat)(inR:Bool)(call:aE->List J->aa->ao)(pl:lv)(iZ:Nat)(ops:Array Oper)(Γ:dC)(d:List bU)(q:bH)(h:aa)(K:bA->dC->List bU->bH->aa->dp):dp:=
 sw P need inR call pl iZ ops h.n (fK ops.toList 0 [] []) [] [] Γ d q (h.room ops.size) 0 []
  (λenv ef Γ d q h cM bg=>mh P need ops env.length env ef Γ none h cM bg (fK ops.toList 0 [] []) (n9 (uv need env.length env Γ (jC ops.toList 0 []) Γ) λΓ=>K .nrm Γ d q h))
  (λv env ef Γ d q h cM bg=>match bg with
   |(e,m,az,wm)::bg=>mh P need ops env.length env ef Γ (some e) az wm bg (fK ops.toList 0 [] []) (n9 (yJ (jC ops.toList 0 []) Γ) λΓ=>K (.bp v) Γ d q h)
   |[]=>bad "a panic")
def Fh(P:Program)(need:Nat)(rd:Option Nat)(call:aE->List J->aa->ao)(c:Code)(Γ:dC)(d:List bU)(q:bH)(h:aa)(K:bA->dC->List bU->bH->aa->dp):Prop:=∃e cx bO bE an,cD P need rd call c ⟨dd Γ,d,q,h⟩ e ⟨dd cx,bO,bE,an⟩/\(K e cx bO bE an).p
theorem S7{rd:Option Nat}{pl:lv}{iZ:Nat}{ops:Array Oper}{Γ:dC}{d:List bU}{q:bH}{h:aa}{K:bA->dC->List bU->bH->aa->dp}(ad:(KI P need rd.isSome call pl iZ ops Γ d q h K).p):Fh P need rd call (.region iZ ops true) Γ d q h K:=by
 have qf:∀(k:Nat) (s:DStep),(fK ops.toList 0 [] [])[k]? =some s->s.i=k:=λk s hs=>by have:=KA _ _ _ _ _ _ hs;omega
 have cX:ny P need ops [] [] [] Γ (h.room ops.size) 0 [] (λ_=>h.room ops.size):=⟨rfl,λ_ hm=>(by cases hm),λ_ hm=>(by cases hm),rfl,λ_ hm=>(by cases hm)⟩
 rcases ux qf (fK ops.toList 0 [] []) [] [] [] Γ d q (h.room ops.size) 0 [] _ rfl cX ad with⟨fX,sy,cx,bO,bE,an,lV,sx,bf,bw,bM,w,eg⟩|⟨v,fX,sy,cx,bO,bE,an,lV,e,m,az,wm,sk,bf,yN,bw,bM,w,⟨post,aU⟩,eg⟩
 · refine⟨.nrm,_,bO,bE,an,λr hm=>?_,o8 (Fg _ eg)⟩
   have ab:=bw r hm
   have ae:=Fe (r:=r) (by rw[bM];exact hm) w.cur (λz bj=>(w.st z bj).2) _ (λs hs _=>w.seen s hs) eg
   refine⟨_,?_,Fb (by rw[bM];exact hm) _ _ _ (by rw[bM];exact hm)⟩
   have hG:gT P need rd.isSome call ops r h.n (fK ops.toList 0 [] []) [] d q ⟨h.t,h.n+ops.size⟩ []=.ok (aT.cQ fX) bO bE an (i_ sx):=ab
   simp only[ea,tc,hG,BI,ae,qI]
 · refine⟨.bp v,_,bO,bE,an,λr hm=>?_,o8 (Fg _ eg)⟩
   have ab:=bw r hm
   have S8:∀s∈fK ops.toList 0 [] [],s.i<fX.length->wk P need ops s fX.length (aT.cQ fX) (dd cx) sy bf:=λs hs hi=>by
    refine w.seen s ?_
    obtain⟨k,ax,p6⟩:=List.getElem_of_mem hs
    have acB:s.i=k:=qf k s (by rw[List.getElem?_eq_getElem ax,p6])
    have KJ:k<yN.length:=by rw[w.pl];omega
    have:(yN++post)[k]? =some s:=by rw[<-aU,List.getElem?_eq_getElem ax,p6]
    rw[List.getElem?_append_left KJ] at this
    exact List.mem_of_getElem? this
   have ae:=Fe (r:=r) (by rw[bM];exact hm) w.cur (λz bj=>(w.st z bj).2) _ S8 eg
   refine⟨_,?_,Fc _ _ _ (by rw[bM];exact hm)⟩
   have hG:gT P need rd.isSome call ops r h.n (fK ops.toList 0 [] []) [] d q ⟨h.t,h.n+ops.size⟩ []=.bp v (aT.cQ fX) bO bE an ((e,m,az)::i_ sk):=ab
   simp only[ea,tc,hG,BI,ae,qI]
end
end aC
namespace aC
open Go
abbrev uz:=bA->dC->List bU->bH->aa->dp
def BJ(P:Program):List (Nat×k2)->(dC->dp)->dp
 |[],K=>K []
 |(t,s)::l,K=>shape P 9 s λx=>BJ P l λΓ=>K ((t,x)::Γ)
def Fi(P:Program)(d:List bU)(q:bH)(K:uz)(dv:bA)(dw:af):List (bA×List (Nat×k2))->dp
 |[]=>bad "loop"
 |[(e,rs)]=>BJ P rs λg2=>g4 λg:aa=>g4 λcx:Env=>g3 (dv=e) (g3 (dw=⟨cx,d,q,g⟩) (g3 (cN (dd g2) cx) (K e g2 d q g)))
 |(e,rs)::l=>.mk ((BJ P rs λg2=>g4 λg:aa=>g4 λcx:Env=>g3 (dv=e) (g3 (dw=⟨cx,d,q,g⟩) (g3 (cN (dd g2) cx) (K e g2 d q g)))).p\/(Fi P d q K dv dw l).p)
def S9:Operand->Nat
 |.tmp t=>t
 |_=>999
def BK(P:Program)(call:aE->List J->aa->ao)(fn:Func)(pl:lv)(gK:Nat)(path:List Nat)(Γ:dC)(d:List bU)(q:bH)(h:aa)(K:uz):dp:=match um (4000+gK) pl with
 |some (.gr ins outs)=>.mk (bz P fn call path ⟨np (dd Γ) ins,d,q,h⟩ λdv dw=>(Fi P d q K dv dw outs).p)
 |_=>bad "loop"
def nz(P:Program)(call:aE->List J->aa->ao)(fn:Func)(need:Nat)(pl:lv):Code->Nat->List Nat->dC->List bU->bH->aa->uz->dp
 |.skip,_,_,Γ,d,q,h,K=>K .nrm Γ d q h
 |.label _,_,_,Γ,d,q,h,K=>K .nrm Γ d q h
 |.exit id,_,_,Γ,d,q,h,K=>K (.exit id) Γ d q h
 |.ret,_,_,Γ,d,q,h,K=>K .ret Γ d q h
 |.scope b,gK,p,Γ,d,q,h,K=>nz P call fn need pl b gK (p++[0]) Γ d q h K
 |.region id ops draw,_,_,Γ,d,q,h,K=>match draw with
  |false=>yI P need false call pl id (pE P need ops).steps [] Γ d q h
   (λenv Γ d q h=>n9 (uv need env.length env Γ (pE P need ops).loc Γ) λΓ=>K .nrm Γ d q h)
   (λv Γ d q h=>n9 (yJ (pE P need ops).loc Γ) λΓ=>K (.bp v) Γ d q h)
  |true=>KI P need false call pl id ops Γ d q h K
 |.seq a b,gK,p,Γ,d,q,h,K=>nz P call fn need pl a gK (p++[0]) Γ d q h λe Γ d q h=>match e with
  |.nrm=>nz P call fn need pl b gK (p++[1]) Γ d q h K
  |e=>K e Γ d q h
 |.cond c a b,gK,p,Γ,d,q,h,K=>match mR 0 [] Γ (c_ P need [] c) with
  |none=>bad "if"
  |some s=>s.eL (BC (um (1000+S9 c) pl)) (n9 (uk (c_ P need [] c) .kG Γ) λΓ=>nz P call fn need pl a gK (p++[0]) Γ d q h K) (n9 (uk (c_ P need [] c) .kH Γ) λΓ=>nz P call fn need pl b gK (p++[1]) Γ d q h K)
 |.block id b,_,p,Γ,d,q,h,K=>nz P call fn need pl b id (p++[0]) Γ d q h λe Γ d q h=>match e with
  |.exit i=>match Nat.beq i id with
   |true=>K .nrm Γ d q h
   |false=>K (.exit i) Γ d q h
  |e=>K e Γ d q h
 |.loop _,gK,p,Γ,d,q,h,K=>BK P call fn pl gK p Γ d q h K
 |.rangeFunc _ _ _ _,gK,p,Γ,d,q,h,K=>BK P call fn pl (500+gK) p Γ d q h K
 |_,_,_,_,_,_,_,_=>bad "code"
section
variable {P:Program} {call:aE->List J->aa->ao} {fn:Func}
theorem Fj:∀(l:List (Nat×k2)) {K:dC->dp},(BJ P l K).p->∃Γ,(K Γ).p
 |[],K,h=>⟨[],h⟩
 |(t,s)::l,K,h=>by
  obtain⟨x,h⟩:=ur h
  obtain⟨Γ,h⟩:=Fj l h
  exact⟨_,h⟩
theorem KK{d:List bU}{q:bH}{K:uz}{dv:bA}{dw:af}:∀(l:List (bA×List (Nat×k2))),(Fi P d q K dv dw l).p->∃g2 cx g,dw=⟨cx,d,q,g⟩/\cN (dd g2) cx/\(K dv g2 d q g).p
 |[],h=>by cases h
 |[(e,rs)],h=>by
  obtain⟨g2,g,cx,rfl,ae,aB,aP⟩:=Fj _ h
  exact⟨g2,cx,g,ae,aB,aP⟩
 |(e,rs)::y::l,h=>by
  rcases h with h|h
  · obtain⟨g2,g,cx,rfl,ae,aB,aP⟩:=Fj _ h
    exact⟨g2,cx,g,ae,aB,aP⟩
  · exact KK (y::l) h
theorem BL(Γ:Env):∀l:List Nat,cN (np Γ l) Γ
 |[]=>trivial
 |t::l=>by
  simp only[np]
  cases h:fV t Γ with
  |none=>exact BL Γ l
  |some v=>exact⟨h,BL Γ l⟩
theorem KL{pl:lv}{gK:Nat}{p:List Nat}{Γ:dC}{d:List bU}{q:bH}{h:aa}{K:uz}(ad:(BK P call fn pl gK p Γ d q h K).p):Fh P (dt fn) none call (sub (fO fn) p) Γ d q h K:=by
 unfold BK at ad
 split at ad
 · obtain⟨e,st,al,aS⟩:=ad
   obtain⟨g2,cx,g,rfl,aB,aP⟩:=KK _ aS
   have ab:cD P (dt fn) none call (sub (fO fn) p) ⟨dd Γ,d,q,h⟩ e ⟨cx,d,q,g⟩:=cD.pre (st1:=⟨dd Γ,d,q,h⟩) al (BL _ _) rfl rfl rfl
   exact⟨e,g2,d,q,g,cD.post ab aB,aP⟩
 · cases ad
theorem sC{pl:lv}:∀(c:Code) (gK:Nat) (p:List Nat) (Γ:dC) (d:List bU) (q:bH) (h:aa) (K:uz),sub (fO fn) p=c->(nz P call fn (dt fn) pl c gK p Γ d q h K).p->Fh P (dt fn) none call c Γ d q h K
 |.skip,gK,p,Γ,d,q,h,K,ai,ad=>⟨.nrm,Γ,d,q,h,λr al=>⟨r,rfl,al⟩,ad⟩
 |.label _,gK,p,Γ,d,q,h,K,ai,ad=>⟨.nrm,Γ,d,q,h,λr al=>⟨r,rfl,al⟩,ad⟩
 |.exit id,gK,p,Γ,d,q,h,K,ai,ad=>⟨.exit id,Γ,d,q,h,λr al=>⟨r,rfl,al⟩,ad⟩
 |.ret,gK,p,Γ,d,q,h,K,ai,ad=>⟨.ret,Γ,d,q,h,λr al=>⟨r,rfl,al⟩,ad⟩
 |.scope b,gK,p,Γ,d,q,h,K,ai,ad=>sC b gK (p++[0]) Γ d q h K (by rw[lr,ai];simp[sub]) ad
 |.region id ops draw,gK,p,Γ,d,q,h,K,ai,ad=>by
  simp only[nz] at ad
  cases draw with
  |true=>exact S7 ad
  |false=>
   rcases Fa _ _ _ _ _ _ ad with⟨fX,cx,bO,bE,an,bw,bM,eg⟩|⟨v,cx,bO,bE,an,bw,bM,eg⟩
   · refine⟨.nrm,_,bO,bE,an,λr al=>⟨_,?_,Fb (by rw[bM];exact al) _ _ _ (by rw[bM];exact al)⟩,o8 eg⟩
     have ab:kS P (dt fn) false call r (pE P (dt fn) ops).steps [] d q h=.ok (aT.cQ fX) bO bE an:=bw r al
     simp only[ea,Option.isSome_none,ab,qI,BI]
   · refine⟨.bp v,_,bO,bE,an,λr al=>⟨_,?_,Fc _ _ _ (by rw[bM];exact al)⟩,o8 eg⟩
     have ab:kS P (dt fn) false call r (pE P (dt fn) ops).steps [] d q h=.bp v bO bE an:=bw r al
     simp only[ea,Option.isSome_none,ab,qI]
 |.seq a b,gK,p,Γ,d,q,h,K,ai,ad=>by
  obtain⟨e,hy,d1,aY,ab,bq,bx⟩:=sC a gK (p++[0]) Γ d q h _ (by rw[lr,ai];simp[sub]) ad
  by_cases he:e=.nrm
  · subst he
    obtain⟨aG,Γ2,d2,aR,ae,a9,bI⟩:=sC b gK (p++[1]) hy d1 aY ab K (by rw[lr,ai];simp[sub]) bx
    refine⟨aG,Γ2,d2,aR,ae,λr al=>?_,bI⟩
    obtain⟨fY,fs,nA⟩:=bq r al
    obtain⟨S_,wu,Ta⟩:=a9 fY nA
    exact⟨S_,by simp only at fs wu;simp only[ea,fs,qJ,wu],Ta⟩
  · refine⟨e,hy,d1,aY,ab,λr al=>?_,by cases e<;>first|exact absurd rfl he|exact bx⟩
    obtain⟨fY,fs,nA⟩:=bq r al
    exact⟨fY,by simp only[ea,fs];exact tA he,nA⟩
 |.cond c a b,gK,p,Γ,d,q,h,K,ai,ad=>by
  simp only[nz] at ad
  split at ad
  · cases ad
  · rename_i s hs
    have kB:hX 0 [] (dd Γ) (c_ P (dt fn) [] c)=some s.den:=by rw[show([]:List J)=aT.cQ [] from rfl,<-wb,hs];rfl
    obtain⟨ag,bu⟩:=BE _ ad
    have aj:=aT.qc ag
    rcases bu with⟨bh,ax⟩|⟨bh,ax⟩
    · rw[bh] at aj
      obtain⟨_,aG,_⟩:=we (x:=.kG) hs aj
      obtain⟨e,hy,d1,aY,ab,bq,bx⟩:=sC a gK (p++[0]) _ d q h K (by rw[lr,ai];simp[sub]) (o8 ax)
      refine⟨e,hy,d1,aY,ab,λr al=>?_,bx⟩
      obtain⟨fY,fs,nA⟩:=bq r (by rw[aG];exact al)
      exact⟨fY,by simp only at fs;simp only[ea,wc al kB,aj,fs],nA⟩
    · rw[bh] at aj
      obtain⟨_,aG,_⟩:=we (x:=.kH) hs aj
      obtain⟨e,hy,d1,aY,ab,bq,bx⟩:=sC b gK (p++[1]) _ d q h K (by rw[lr,ai];simp[sub]) (o8 ax)
      refine⟨e,hy,d1,aY,ab,λr al=>?_,bx⟩
      obtain⟨fY,fs,nA⟩:=bq r (by rw[aG];exact al)
      exact⟨fY,by simp only at fs;simp only[ea,wc al kB,aj,fs],nA⟩
 |.block id b,gK,p,Γ,d,q,h,K,ai,ad=>by
  obtain⟨e,hy,d1,aY,ab,bq,bx⟩:=sC b id (p++[0]) Γ d q h _ (by rw[lr,ai];simp[sub]) ad
  cases e with
  |exit i=>
   simp only at bx
   cases hi:Nat.beq i id with
   |true=>
    rw[hi] at bx
    obtain rfl:=Nat.eq_of_beq_eq_true hi
    exact⟨.nrm,hy,d1,aY,ab,λr al=>by
     obtain⟨fY,fs,nA⟩:=bq r al
     exact⟨fY,by simp only at fs;simp only[ea,fs,if_true],nA⟩,bx⟩
   |false=>
    rw[hi] at bx
    have eb:¬i=id:=by intro ed;subst ed;simp at hi
    exact⟨.exit i,hy,d1,aY,ab,λr al=>by
     obtain⟨fY,fs,nA⟩:=bq r al
     exact⟨fY,by simp only at fs;simp only[ea,fs,if_neg eb],nA⟩,bx⟩
  |_=>
   exact⟨_,hy,d1,aY,ab,λr al=>by
    obtain⟨fY,fs,nA⟩:=bq r al
    exact⟨fY,by simp only at fs;simp only[ea,fs],nA⟩,bx⟩
 |.loop b,gK,p,Γ,d,q,h,K,ai,ad=>by
  have:=KL ad;rw[ai] at this;exact this
 |.rangeFunc f ps as cr,gK,p,Γ,d,q,h,K,ai,ad=>by
  have:=KL ad;rw[ai] at this;exact this
 |.goto _,gK,p,Γ,d,q,h,K,ai,ad=>by simp only[nz] at ad;cases ad
 |.refuse _,gK,p,Γ,d,q,h,K,ai,ad=>by simp only[nz] at ad;cases ad
def KM(P:Program)(fn:Func)(call:aE->List J->aa->ao)(pl:lv)(b0:List Nat)(path:List Nat)(Γ:dC)(d:List bU)(q:bH)(h:aa)(Q:bA->af->Prop):Prop:=
 (nz P call fn (dt fn) pl (sub (fO fn) path) 0 path Γ d q h λe Γ d q h=>.mk (Q e ⟨np (dd Γ) b0,d,q,h⟩)).p
theorem hz(pl:lv)(b0:List Nat)(Γ:dC){cx:Env}{path:List Nat}{d:List bU}{q:bH}{h:aa}{Q:bA->af->Prop}(cS:dd Γ=cx)(H:KM P fn call pl b0 path Γ d q h Q):bz P fn call path ⟨cx,d,q,h⟩ Q:=by
 subst cS
 obtain⟨e,hy,d1,aY,ab,bq,bx⟩:=sC _ 0 path Γ d q h _ rfl H
 exact⟨e,_,cD.post bq (BL _ b0),bx⟩
def KN(P:Program)(fn:Func)(R:ao->Prop):uz:=λe Γ d q h=>match d with
 |[]=>match e with
  |.bp v=>.mk (R (.bp v h))
  |.ret|.nrm=>match kE P (dt fn) fn (dd Γ) h with
   |some v=>.mk (R (.ret v h))
   |none=>bad "results"
  |_=>bad "end"
 |_=>bad "deferred"
def KO(P:Program)(fn:Func)(call:aE->List J->aa->ao)(pl:lv)(Γ:dC)(h:aa)(R:ao->Prop):Prop:=
 (nz P call fn (dt fn) pl (fO fn) 0 [] Γ [] .none h (KN P fn R)).p
theorem eM{intr:Nat->List J->aa->Option (J×aa)}{f n:Nat}{args:List J}{h:aa}{R:ao->Prop}(pl:lv)(Γ:dC)(hf:P.funcs[f]? =some fn)(ag:fn.body.isSome=true)(hi:intr f args h=none)(hle:Nat.ble args.length fn.ntmps=true)(cS:dd Γ=nr 0 args)(H:KO P fn (gk P intr n) pl Γ h R):R (gk P intr (n+1) (.fn f) args h):=by
 refine ET hf ag hi hle (Q:=λe s=>s.d=[]/\((∃v,e=.bp v/\R (.bp v s.h))\/((e=.ret\/e=.nrm)/\∃v,kE P (dt fn) fn s.Γ s.h=some v/\R (.ret v s.h)))) ?_ λe s aS=>?_
 · have hs:sub (fO fn) []=fO fn:=by cases fO fn<;>rfl
   obtain⟨e,hy,d1,aY,ab,bq,bx⟩:=sC (fO fn) 0 [] Γ [] .none h _ hs H
   rw[cS] at bq
   refine⟨e,⟨dd hy,d1,aY,ab⟩,by unfold aw;rw[hs];exact bq,?_⟩
   unfold KN at bx
   split at bx
   · refine⟨rfl,?_⟩
     split at bx
     · exact .inl ⟨_,rfl,bx⟩
     · split at bx
       · rename_i v aJ;exact .inr ⟨.inl rfl,v,aJ,bx⟩
       · cases bx
     · split at bx
       · rename_i v aJ;exact .inr ⟨.inr rfl,v,aJ,bx⟩
       · cases bx
     · cases bx
   · cases bx
 · obtain⟨aj,aS⟩:=aS
   rcases aS with⟨v,rfl,al⟩|⟨he,v,aJ,al⟩
   · exact .inr ⟨v,rfl,aj,al⟩
   · exact .inl ⟨he,aj,v,aJ,al⟩
end
attribute [irreducible] KM KO
end aC
