/-
  PROVED HERE: contracts of functions (Tx). No condition beside each statement's own.
-/
import Derived.Test.YtjkomfonmcmgdaaGreatDoorSxb
set_option linter.unusedVariables false
set_option linter.unusedSimpArgs false
namespace aM
open Go
inductive Stop(iY:String):Prop
inductive cO where
 |mk (p:Prop)
def cO.p:cO->Prop
 |.mk p=>p
abbrev bad(w:String):cO:=.mk (Stop w)
abbrev gh(p:Prop)(k:cO):cO:=.mk (p/\k.p)
abbrev gD{α:Type}(f:α->cO):cO:=.mk (∃x:α,(f x).p)
abbrev x3(c c':Prop)(a b:cO):cO:=.mk ((c->a.p)/\(c'->b.p))
inductive aE where
 |v (a:I)
 |o (a:I)
 |iT|jO
 |lt (i n:Nat)|le (i n:Nat)|eq (i n:Nat)
 |bP (s:aE)
 |j4 (l:List aE)
 |fG (l:List aE)
def aE.ku:aE->Bool
 |.iT=>true
 |.jO=>false
 |.lt i n=>bM (.ofNat i) (.ofNat n)
 |.le i n=>fb (.ofNat i) (.ofNat n)
 |.eq i n=>a8 (.ofNat i) (.ofNat n)
 |.bP s=>!s.ku
 |.v (.bool b)=>b
 |_=>false
def aE.tg:aE->Bool
 |.iT|.jO|.lt _ _|.le _ _|.eq _ _|.bP _=>true
 |.v (.bool _)=>true
 |_=>false
mutual
def aE.den:aE->I
 |.v a=>a
 |.o a=>a
 |.iT=>.bool true
 |.jO=>.bool false
 |.lt i n=>.bool (bM (.ofNat i) (.ofNat n))
 |.le i n=>.bool (fb (.ofNat i) (.ofNat n))
 |.eq i n=>.bool (a8 (.ofNat i) (.ofNat n))
 |.bP s=>.bool (!s.ku)
 |.j4 l=>.agg (aE.bX l)
 |.fG l=>.aP (aE.bX l)
def aE.bX:List aE->List I
 |[]=>[]
 |s::l=>s.den::aE.bX l
end
def lg:I->aE
 |.bool true=>.iT
 |.bool false=>.jO
 |v=>.v v
abbrev c6:=List (Nat×aE)
def cS:c6->Env
 |[]=>[]
 |(t,s)::l=>(t,s.den)::cS l
def th(t:Nat):c6->Option aE
 |[]=>none
 |(u,s)::l=>match Nat.beq t u with
  |true=>some s
  |false=>th t l
def ti:Nat->List aE->Option aE
 |_,[]=>none
 |0,s::_=>some s
 |n+1,_::l=>ti n l
def tj:Nat->aE->List aE->List aE
 |_,_,[]=>[]
 |0,x,_::l=>x::l
 |n+1,x,s::l=>s::tj n x l
def AW(t:Nat)(x:aE):c6->c6
 |[]=>[]
 |(u,s)::l=>match Nat.beq t u with
  |true=>(u,x)::l
  |false=>(u,s)::AW t x l
def lT(m:Nat)(env:List aE)(Γ:c6):Acc->Option aE
 |.env j=>match Nat.blt j m with
  |true=>ti (m-1-j) env
  |false=>none
 |.reg p=>th p.num Γ
 |.val v=>some (lg v)
def vd(m:Nat)(a:Acc)(b:aE)(env:List aE):List aE:=match a with
 |.env j=>tj (m-1-j) b env
 |_=>env
def tk(a:Acc)(b:aE)(Γ:c6):c6:=match a with
 |.reg p=>AW p.num b Γ
 |_=>Γ
def aE.lU(s:aE)(K:aE->cO):cO:=match s with
 |.v a=>K (.v a)
 |.o a=>K (.o a)
 |.iT=>K .iT
 |.jO=>K .jO
 |.lt i n=>K (.lt i n)
 |.le i n=>K (.le i n)
 |.eq i n=>K (.eq i n)
 |.bP s=>K (.bP s)
 |.j4 l=>K (.j4 l)
 |.fG l=>K (.fG l)
def rE:List aE->(List aE->cO)->cO
 |[],K=>K []
 |s::l,K=>s.lU λs=>rE l λl=>K (s::l)
def nv:c6->(c6->cO)->cO
 |[],K=>K []
 |(t,s)::l,K=>s.lU λs=>nv l λl=>K ((t,s)::l)
inductive j5 where
 |ty (t:TypeId)
 |is (v:I)|io (v:I)
 |z (k:IntKind)
 |n (k:IntKind)
 |o
 |p|JT
 |st|b
 |fS|JU (c:b3)
 |fG (l:List j5)|j4 (l:List j5)
 |JV (t:TypeId) (s:j5)
 |fn (f:Nat) (k:Nat)
inductive pc where
 |bC (s:j5)
 |t|f
 |p (s:j5)
 |e (r:Option j5) (s:j5)
 |g2 (ins:List Nat) (outs:List (bn×List (Nat×j5)))
def Ej:List aE->List aE
 |[]=>[]
 |.j4 l::r=>l++Ej r
 |s::r=>s::Ej r
abbrev kx:=List (Nat×pc)
def tl(k:Nat):kx->Option pc
 |[]=>none
 |(j,o)::l=>match Nat.beq k j with
  |true=>some o
  |false=>tl k l
mutual
def shape(P:Program):Nat->j5->(aE->cO)->cO
 |0,_,_=>bad "shape"
 |n+1,s,K=>match s with
  |.is v=>K (lg v)
  |.io v=>K (.o v)
  |.z k=>gD λx:Int=>K (.o (.int k x))
  |.n k=>gD λx:Nat=>K (.v (.int k (.ofNat x)))
  |.o=>gD λx:I=>K (.o x)
  |.p=>gD λx:Nat=>K (.v (.ptr x 0))
  |.JT=>gD λx:Nat=>gD λy:Nat=>K (.v (.ptr x y))
  |.st=>gD λx:List UInt8=>K (.v (.str x))
  |.b=>gD λx:Bool=>K (.v (.bool x))
  |.fS=>gD λx:Nat=>gD λy:Nat=>gD λz:Nat=>gD λc:b3=>K (.v (.slice x y z c))
  |.JU c=>gD λx:Nat=>gD λz:Nat=>K (.v (.slice x 0 z c))
  |.fG l=>rF P n l λr=>K (.fG r)
  |.j4 l=>rF P n l λr=>K (.j4 r)
  |.JV t s=>shape P n s λx=>K (.v (.iface t x.den))
  |.fn f k=>gD λx:List I=>K (.v (.fn f [] x))
  |.ty t=>match P.underlying t with
   |some .bool=>gD λx:Bool=>K (.v (.bool x))
   |some (.int k)=>gD λx:Nat=>K (.v (.int k (.ofNat x)))
   |some .string=>gD λx:List UInt8=>K (.v (.str x))
   |some (.pointer _)=>gD λx:Nat=>K (.v (.ptr x 0))
   |some (.struct bR)=>rF P n (bR.toList.map λf=>.ty f.type) λr=>K (.j4 (Ej r))
   |some (.tuple cv)=>rF P n (cv.toList.map .ty) λr=>K (.fG r)
   |some .invalid=>K (.v (.aP []))
   |some _=>gD λx:I=>K (.o x)
   |none=>K (.v (.aP []))
def rF(P:Program):Nat->List j5->(List aE->cO)->cO
 |0,_,_=>bad "shapes"
 |n+1,l,K=>match l with
  |[]=>K []
  |s::l=>shape P n s λx=>rF P n l λr=>K (x::r)
end
def aE.hO(ew:Option Bool)(A B:cO):aE->cO
 |.iT=>A
 |.jO=>B
 |.lt i n=>match ew with
  |none=>x3 (i<n) (¬i<n) A B
  |some true=>gh (i<n) A
  |some false=>gh (¬i<n) B
 |.le i n=>match ew with
  |none=>x3 (i<=n) (¬i<=n) A B
  |some true=>gh (i<=n) A
  |some false=>gh (¬i<=n) B
 |.eq i n=>match ew with
  |none=>x3 (i=n) (¬i=n) A B
  |some true=>gh (i=n) A
  |some false=>gh (¬i=n) B
 |.bP s=>s.hO (match ew with|none=>none|some b=>some (!b)) B A
 |.v (.bool x)=>match ew with
  |none=>x3 (x=true) (x=false) A B
  |some true=>gh (x=true) A
  |some false=>gh (x=false) B
 |_=>bad "choice"
def AX(o:Option pc):Option Bool:=match o with
 |some .t=>some true
 |some .f=>some false
 |_=>none
def Ek(o:Option pc)(t:TypeId):j5:=match o with
 |some (.bC s)=>s
 |_=>.ty t
def El(op:BinOp)(x y:aE):Option aE:=match x,y with
 |.v (.int k (.ofNat a)),.v (.int ea (.ofNat b))=>match decide (k=ea) with
  |true=>match op with
   |.lss=>some (.lt a b)
   |.leq=>some (.le a b)
   |.gtr=>some (.lt b a)
   |.geq=>some (.le b a)
   |.eql=>some (.eq a b)
   |.neq=>some (.bP (.eq a b))
   |_=>none
  |false=>none
 |_,_=>none
def Em(op:BinOp)(x y:aE):Option (Prop×I):=match x,y with
 |.v (.int k (.ofNat a)),.v (.int ea (.ofNat b))=>match decide (k=ea),op,k with
  |true,.add,.i64=>some (a+b<9223372036854775808,.int .i64 (.ofNat (a+b)))
  |true,.sub,.i64=>some (b<=a/\a<9223372036854775808,.int .i64 (.ofNat (a-b)))
  |true,.mul,.i64=>some (a*b<9223372036854775808,.int .i64 (.ofNat (a*b)))
  |true,.add,.u64=>some (a+b<18446744073709551616,.int .u64 (.ofNat (a+b)))
  |true,.sub,.u64=>some (b<=a/\a<18446744073709551616,.int .u64 (.ofNat (a-b)))
  |_,_,_=>none
 |.v (.str a),.v (.str b)=>match op with
  |.add=>some (a.length+b.length<=1000000000000,.str (a++b))
  |_=>none
 |_,_=>none
def tm:aE->List I
 |.o a=>[a]
 |s=>s.den.cells
def tn:List aE->cO->cO
 |[],K=>K
 |.o a::l,K=>gh (a.cQ=true) (tn l K)
 |_::l,K=>tn l K
def tp:List aE->Bool
 |[]=>true
 |.o _::l=>tp l
 |s::l=>s.den.cQ&&tp l
def ve(s:aE)(K:cO):cO:=match s with
 |.o a=>gh (a.cQ=true) K
 |.j4 l=>match tp l with
  |true=>tn l K
  |false=>bad "cells"
 |s=>match s.den.cells.all I.cQ with
  |true=>K
  |false=>bad "cells"
def mE:aE->List aE
 |.j4 l=>l
 |.v (.agg cs)=>cs.map lg
 |s=>[s]
def aE.En:aE->Bool
 |.o _=>true
 |_=>false
def tq(place:Nat->Option (Nat×Nat)):List aE->List (Nat×aE)->Option (List aE)
 |cells,[]=>some cells
 |cells,(i,s)::rest=>match place i with
  |none=>none
  |some (off,size)=>match Nat.beq (mE s).length size&&Nat.ble (off+size) cells.length with
   |true=>tq place (cells.take off++mE s++(cells.drop off).drop (mE s).length) rest
   |false=>none
def nw:List (Nat×aE)->List aE
 |[]=>[]
 |(_,s)::l=>mE s++nw l
def AY(P:Program)(t:TypeId)(len:Nat)(ps:List (Nat×aE))(K:TypeId->List aE->cO):cO:=match P.underlying t with
 |some (.slice e)=>match dh P e,d_ P e with
  |some sz,some z=>match Nat.ble (len*sz) 16777216&&Nat.beq z.cells.length sz,(if len*sz=0 then[] else fc len z.cells).all I.cQ,tq (λi=>some (i*sz,sz)) ((if len*sz=0 then[] else fc len z.cells).map lg) ps,tp (nw ps) with
   |true,true,some cs,true=>tn (nw ps) (rE cs λcs=>K e cs)
   |_,_,_,_=>bad "buildSlice"
  |_,_=>bad "buildSlice"
 |_=>bad "buildSlice"
def eR(a b:Bool):Bool:=a==b
def Eo(P:Program)(op:BinOp)(t:TypeId)(x y:aE):Option aE:=match x.tg&&y.tg,P.underlying t,op with
 |true,some .bool,.eql=>some (.v (.bool (eR x.ku y.ku)))
 |true,some .bool,.neq=>some (.bP (.v (.bool (eR x.ku y.ku))))
 |_,_,_=>none
def SE(x y:aE):Bool:=match x,y with
 |.v (.ptr _ _),.v .bb|.v .bb,.v .bb|.v (.slice _ _ _ _),.v .a0|.v .a0,.v .a0|.v (.iface _ _),.v .eS|.v .eS,.v .eS=>true
 |_,_=>false
section
variable (P:Program) (inR:Bool) (call:aI->List I->J->av)
abbrev pd:=aE->List bQ->bD->J->cO
abbrev pe:=I->List bQ->bD->J->cO
def AZ(ew:Option pc)(t:TypeId)(f:aI)(args:List I)(d:List bQ)(q:bD)(h:J)(K:pd)(bT:pe):cO:=match ew with
 |some (.p s)=>shape P 9 s λx=>gD λg:J=>gh (call f args h=.b4 x.den g) (bT x.den d q g)
 |some (.e r s)=>.mk ((shape P 9 (match r with|some r=>r|none=>.ty t) λx=>gD λg:J=>gh (call f args h=.ret x.den g) (K x d q g)).p\/(shape P 9 s λx=>gD λg:J=>gh (call f args h=.b4 x.den g) (bT x.den d q g)).p)
 |ew=>shape P 9 (Ek ew t) λx=>gD λg:J=>gh (call f args h=.ret x.den g) (K x d q g)
def qm(ew:Option pc)(o:Oper)(g:Operand->aE)(d:List bQ)(q:bD)(h:J)(K:pd)(bT:pe):cO:=
 match DU o (λx=>(g x).den) with
 |0=>match cB P o (λx=>(g x).den) h with
  |.val v an=>match ew with
   |some (.bC .o)=>K (.o v) d q an
   |_=>K (.v v) d q an
  |.b4 v an=>bT v d q an
  |.call f args an=>AZ P call ew o.type (.fn f) args d q an K bT
  |.dd l args an=>AZ P call ew o.type (.dd l) args d q an K bT
  |.k6 x=>match inR with
   |true=>bad "defer"
   |false=>K (.v (.aP [])) (x::d) q h
  |.sm=>match inR with
   |true=>bad "recover"
   |false=>match q with
    |.none=>K (.v .eS) d .none h
    |.done v=>K (.v .eS) d (.done v) h
    |.act v=>K (.v v) d (.done v) h
  |.fail w=>bad w
 |1=>shape P 9 (Ek ew o.type) λx=>gh (n_ P o (λy=>(g y).den) h x.den) (K x d q h)
 |_=>shape P 9 (Ek ew o.type) λx=>gD λan:J=>gh (u2 P o (λy=>(g y).den) h x.den an) (K x d q an)
def Ep(ew:Option pc)(o:Oper)(g:Operand->aE)(d:List bQ)(q:bD)(h:J)(K:pd)(bT:pe):cO:=match o.op with
 |.move x|.assign x=>(g x).lU λs=>K s d q h
 |.unOp .not _ x=>match(g x).tg with
  |true=>(g x).lU λs=>K (.bP s) d q h
  |false=>bad "not"
 |.binOp op t x y _=>(g x).lU λu=>(g y).lU λw=>match(match El op u w with|some s=>some s|none=>Eo P op t u w) with
  |some s=>K s d q h
  |none=>match SE u w with
   |true=>match eB P h op t x y u.den w.den with
    |some v=>(lg v).lU λs=>K s d q h
    |none=>bad "nil"
   |false=>match(match ew with|none=>Em op u w|some _=>none) with
    |some (p,v)=>gh p (K (.v v) d q h)
    |none=>qm P inR call ew o g d q h K bT
 |.extract x i=>match g x with
  |.fG l=>match ti i l with
   |some s=>s.lU λs=>K s d q h
   |none=>bad "extract"
  |_=>qm P inR call ew o g d q h K bT
 |.indexAddr t x i=>match P.underlying t,g x,eC (g i).den with
  |some (.array m e),.v (.ptr b off),some n=>match dh P e with
   |some sz=>gh (n<m) (K (.v (.ptr b (off+n*sz))) d q h)
   |none=>bad "indexAddr"
  |some (.slice e),.v (.slice b off m c),some n=>match dh P e with
   |some sz=>gh (n<m) (K (.v (.ptr b (off+n*sz))) d q h)
   |none=>bad "indexAddr"
  |_,_,_=>bad "indexAddr of what"
 |.store t a x=>match(g a).den,dh P t with
  |.ptr b off,some n=>match Nat.beq (tm (g x)).length n with
   |true=>(g x).lU λs=>ve s (gD λgg:J=>gh (storeCells h b off (tm s)=some gg) (K (.v (.aP [])) d q gg))
   |false=>bad "store size"
  |_,_=>bad "store"
 |.build t parts=>match(nw (parts.toList.map λp=>(p.1,g p.2))).any aE.En with
  |false=>qm P inR call ew o g d q h K bT
  |true=>match d_ P t,P.underlying t with
   |some z,some (.struct bR)=>match bR.toList.all (λf=>(dh P f.type).isSome),tq (λi=>(bR[i]?).map λf=>(f.offset,P.cellsOf f.type)) (z.cells.map lg) (parts.toList.map λp=>(p.1,g p.2)),tp (nw (parts.toList.map λp=>(p.1,g p.2))) with
    |true,some cs,true=>tn (nw (parts.toList.map λp=>(p.1,g p.2))) (rE cs λcs=>K (.j4 cs) d q h)
    |_,_,_=>bad "build"
   |_,_=>bad "build of what"
 |.buildSlice t len parts=>match(nw (parts.toList.map λp=>(p.1,g p.2))).any aE.En with
  |false=>qm P inR call ew o g d q h K bT
  |true=>AY P t len (parts.toList.map λp=>(p.1,g p.2)) λe cs=>K (.v (.slice h.n 0 len (.exact len))) d q (h.push (.cells (aE.bX cs) e .own 0 0))
 |.box e x=>(g x).lU λs=>ve s (K (.v (.ptr h.n 0)) d q (h.push (.cells (tm s) e .own 0 0)))
 |.call c=>match c.callee with
  |.builtin .len=>match c.args.toList.map g,c.argTypes[0]? with
   |[.o a],some t=>gD λn:Nat=>gh (b9 P h t a=some (.int .i64 (.ofNat n))) (K (.v (.int .i64 (.ofNat n))) d q h)
   |_,_=>qm P inR call ew o g d q h K bT
  |_=>qm P inR call ew o g d q h K bT
 |_=>qm P inR call ew o g d q h K bT
end
end aM
namespace aM
open Go
theorem aE.pf{s:aE}(h:s.tg=true):s.den=.bool s.ku:=by
 cases s with
 |v a=>cases a<;>first|rfl|cases h
 |o a=>cases h
 |j4 l=>cases h
 |fG l=>cases h
 |iT=>rfl
 |jO=>rfl
 |lt i n=>rfl
 |le i n=>rfl
 |eq i n=>rfl
 |bP s=>rfl
theorem x4(a:I):(lg a).den=a:=by
 unfold lg;split<;>rfl
theorem Er:∀(n:Nat) (l:List aE),(ti n l).map aE.den=nth n (aE.bX l)
 |0,[]=>rfl
 |_+1,[]=>rfl
 |0,x::l=>rfl
 |n+1,x::l=>Er n l
theorem JW(n:Nat)(l:List aE)(s:aE)(h:ti n l=some s):nth n (aE.bX l)=some s.den:=by
 rw[<-Er,h];rfl
theorem JX(t:Nat):∀Γ:c6,(th t Γ).map aE.den=er t (cS Γ)
 |[]=>rfl
 |(u,x)::l=>by
  simp only[th,cS,er]
  cases ae:Nat.beq t u with
  |true=>rfl
  |false=>exact JX t l
def g3(m:Nat)(l:List I)(G:Env):Acc->Option I
 |.env j=>match Nat.blt j m with
  |true=>nth (m-1-j) l
  |false=>none
 |.reg p=>er p.num G
 |.val v=>some v
theorem vf(m:Nat)(env:List aE)(Γ:c6)(a:Acc):(lT m env Γ a).map aE.den=g3 m (aE.bX env) (cS Γ) a:=by
 cases a with
 |env j=>
  simp only[lT,g3]
  cases Nat.blt j m with
  |true=>exact Er _ _
  |false=>rfl
 |reg p=>exact JX _ _
 |val v=>simp only[lT,g3,Option.map_some,x4]
theorem vg{m:Nat}{l:List I}{G:Env}{r:aY}(hm:Mod r G){a:Acc}{v:I}(h:g3 m l G a=some v):dt m l r a=v:=by
 cases a with
 |env j=>
  simp only[g3] at h
  split at h
  · simp only[dt,h,Option.getD_some]
  · cases h
 |reg p=>simp only[g3] at h;simp only[dt];rw[<-Jr p];exact hm _ _ h
 |val x=>cases h;rfl
theorem x5{m:Nat}{l:List I}{G:Env}{a:Acc}{v:I}(x:I)(h:g3 m l G a=some v):g3 (m+1) (x::l) G a=some v:=by
 cases a with
 |env j=>
  simp only[g3] at h⊢
  split at h
  · rename_i ae
    have aL:j<m:=by simpa using ae
    have fw:Nat.blt j (m+1)=true:=by simp;omega
    rw[fw]
    have:m+1-1-j=(m-1-j)+1:=by omega
    rw[this];exact h
  · cases h
 |reg p=>exact h
 |val x=>exact h
theorem JY(x:aE):∀(n:Nat) (l:List aE),(∀s,ti n l=some s->s.den=x.den)->aE.bX (tj n x l)=aE.bX l
 |0,[],_=>rfl
 |_+1,[],_=>rfl
 |0,s::l,h=>by simp only[tj,aE.bX,h s rfl]
 |n+1,s::l,h=>by simp only[tj,aE.bX];rw[JY x n l h]
theorem JZ(x:aE):∀(n:Nat) (l:List aE),(tj n x l).length=l.length
 |0,[]=>rfl
 |_+1,[]=>rfl
 |0,s::l=>rfl
 |n+1,s::l=>by simp only[tj,List.length_cons,JZ x n l]
theorem J0(t:Nat)(x:aE):∀Γ:c6,(∀s,th t Γ=some s->s.den=x.den)->cS (AW t x Γ)=cS Γ
 |[],_=>rfl
 |(u,s)::l,h=>by
  simp only[AW]
  simp only[th] at h
  cases ae:Nat.beq t u with
  |true=>rw[ae] at h;simp only[cS,h s rfl]
  |false=>rw[ae] at h;simp only[cS];rw[J0 t x l h]
theorem vh{m:Nat}{env:List aE}{Γ:c6}{a:Acc}{s x:aE}(h:lT m env Γ a=some s)(e:s.den=x.den):aE.bX (vd m a x env)=aE.bX env/\cS (tk a x Γ)=cS Γ/\(vd m a x env).length=env.length:=by
 cases a with
 |env j=>
  simp only[lT] at h
  split at h
  · exact⟨JY x _ _ λbg hs=>by rw[h] at hs;cases hs;exact e,rfl,JZ _ _ _⟩
  · cases h
 |reg p=>exact⟨rfl,J0 _ _ _ λbg hs=>by rw[show th p.num Γ=some s from h] at hs;cases hs;exact e,rfl⟩
 |val v=>exact⟨rfl,rfl,rfl⟩
theorem aE.lV{s:aE}{K:aE->cO}(h:(s.lU K).p):(K s).p:=by cases s<;>exact h
theorem tr:∀{l:List aE} {K:List aE->cO},(rE l K).p->(K l).p
 |[],_,h=>h
 |s::l,K,h=>tr (l:=l) (aE.lV h)
theorem od:∀{l:c6} {K:c6->cO},(nv l K).p->(K l).p
 |[],_,h=>h
 |(t,s)::l,K,h=>od (l:=l) (aE.lV h)
theorem J1{P:Program}:∀(n:Nat),(∀(s:j5) (K:aE->cO),(shape P n s K).p->∃x,(K x).p)/\(∀(l:List j5) (K:List aE->cO),(rF P n l K).p->∃x,(K x).p)
 |0=>⟨λs K h=>(by simp only[shape] at h;cases h),λl K h=>(by simp only[rF] at h;cases h)⟩
 |n+1=>by
  obtain⟨ab,ad⟩:=J1 (P:=P) n
  refine⟨λs K h=>?_,λl K h=>?_⟩
  · simp only[shape] at h
    cases s with
    |is v=>exact⟨_,h⟩
    |io v=>exact⟨_,h⟩
    |z k=>obtain⟨x,h⟩:=h;exact⟨_,h⟩
    |n k=>obtain⟨x,h⟩:=h;exact⟨_,h⟩
    |o=>obtain⟨x,h⟩:=h;exact⟨_,h⟩
    |p=>obtain⟨x,h⟩:=h;exact⟨_,h⟩
    |JT=>obtain⟨x,y,h⟩:=h;exact⟨_,h⟩
    |st=>obtain⟨x,h⟩:=h;exact⟨_,h⟩
    |b=>obtain⟨x,h⟩:=h;exact⟨_,h⟩
    |fS=>obtain⟨x,y,z,c,h⟩:=h;exact⟨_,h⟩
    |JU c=>obtain⟨x,z,h⟩:=h;exact⟨_,h⟩
    |fG l=>obtain⟨r,h⟩:=ad _ _ h;exact⟨_,h⟩
    |j4 l=>obtain⟨r,h⟩:=ad _ _ h;exact⟨_,h⟩
    |JV t s=>obtain⟨r,h⟩:=ab _ _ h;exact⟨_,h⟩
    |fn f k=>obtain⟨x,h⟩:=h;exact⟨_,h⟩
    |ty t=>
     simp only at h
     split at h
     · obtain⟨x,h⟩:=h;exact⟨_,h⟩
     · obtain⟨x,h⟩:=h;exact⟨_,h⟩
     · obtain⟨x,h⟩:=h;exact⟨_,h⟩
     · obtain⟨x,h⟩:=h;exact⟨_,h⟩
     · obtain⟨r,h⟩:=ad _ _ h;exact⟨_,h⟩
     · obtain⟨r,h⟩:=ad _ _ h;exact⟨_,h⟩
     · exact⟨_,h⟩
     · obtain⟨x,h⟩:=h;exact⟨_,h⟩
     · exact⟨_,h⟩
  · simp only[rF] at h
    cases l with
    |nil=>exact⟨_,h⟩
    |cons s l=>
     obtain⟨x,h⟩:=ab _ _ h
     obtain⟨r,h⟩:=ad _ _ h
     exact⟨_,h⟩
theorem ts{P:Program}{n:Nat}{s:j5}{K:aE->cO}(h:(shape P n s K).p):∃x,(K x).p:=(J1 n).1 s K h
theorem Es{p:Prop}{A B:cO}{ew:Option Bool}(h:(match ew with
  |none=>x3 p (¬p) A B
  |some true=>gh p A
  |some false=>gh (¬p) B).p):(p/\A.p)\/(¬p/\B.p):=by
 cases ew with
 |none=>by_cases aO:p
        · exact .inl ⟨aO,h.1 aO⟩
        · exact .inr ⟨aO,h.2 aO⟩
 |some b=>cases b with
  |true=>exact .inl h
  |false=>exact .inr h
theorem A0:∀(s:aE) {ew:Option Bool} {A B:cO},(s.hO ew A B).p->s.tg=true/\((s.ku=true/\A.p)\/(s.ku=false/\B.p))
 |.iT,_,_,_,h=>⟨rfl,.inl ⟨rfl,h⟩⟩
 |.jO,_,_,_,h=>⟨rfl,.inr ⟨rfl,h⟩⟩
 |.lt i n,ew,A,B,h=>by
  refine⟨rfl,?_⟩
  rcases Es (p:=i<n) h with⟨ab,ad⟩|⟨ab,ad⟩
  · exact .inl ⟨dS ab,ad⟩
  · exact .inr ⟨eW ab,ad⟩
 |.le i n,ew,A,B,h=>by
  refine⟨rfl,?_⟩
  rcases Es (p:=i<=n) h with⟨ab,ad⟩|⟨ab,ad⟩
  · exact .inl ⟨mA ab,ad⟩
  · exact .inr ⟨ob ab,ad⟩
 |.eq i n,ew,A,B,h=>by
  refine⟨rfl,?_⟩
  rcases Es (p:=i=n) h with⟨ab,ad⟩|⟨ab,ad⟩
  · exact .inl ⟨mB ab,ad⟩
  · exact .inr ⟨ji ab,ad⟩
 |.bP s,ew,A,B,h=>by
  refine⟨rfl,?_⟩
  simp only[aE.hO] at h
  obtain⟨_,ad⟩:=A0 s h
  simp only[aE.ku]
  rcases ad with⟨e,k⟩|⟨e,k⟩
  · right;exact⟨by rw[e];rfl,k⟩
  · left;exact⟨by rw[e];rfl,k⟩
 |.v a,ew,A,B,h=>by
  cases a<;>simp only[aE.hO] at h<;>first|(cases h;done)|skip
  rename_i x
  refine⟨rfl,?_⟩
  simp only[aE.ku]
  cases x with
  |true=>left;refine⟨rfl,?_⟩;cases ew with
   |none=>exact h.1 rfl
   |some b=>cases b with
    |true=>exact h.2
    |false=>cases h.1
  |false=>right;refine⟨rfl,?_⟩;cases ew with
   |none=>exact h.2 rfl
   |some b=>cases b with
    |true=>cases h.1
    |false=>exact h.2
 |.o a,_,_,_,h=>by simp only[aE.hO] at h;cases h
 |.j4 l,_,_,_,h=>by simp only[aE.hO] at h;cases h
 |.fG l,_,_,_,h=>by simp only[aE.hO] at h;cases h
section
variable {P:Program} {inR:Bool} {call:aI->List I->J->av}
def h5(x:wM)(K:pd)(bT:pe):Prop:=(∃s d q h,x=.ok (aE.den s) d q h/\(K s d q h).p)\/∃v d q h,x=.b4 v d q h/\(bT v d q h).p
theorem h5.val{o:Oper}{g:Operand->I}{d:List bQ}{q:bD}{h an:J}{K:pd}{bT:pe}{s:aE}(e:cB P o g h=.val s.den an)(k:(K s d q an).p):h5 (dL P inR call none o g d q h) K bT:=
 .inl ⟨s,d,q,an,by simp only[dL,ep,e],k⟩
theorem x6{K:cO}:∀(l:List aE),tp l=true->(tn l K).p->(aE.bX l).all I.cQ=true/\K.p
 |[],_,h=>⟨rfl,h⟩
 |x::l,aq,h=>by
  cases x with
  |o a=>
   obtain⟨ab,ad⟩:=h
   obtain⟨bE,b0⟩:=x6 l aq ad
   exact⟨by simp only[aE.bX,List.all_cons,aE.den,ab,bE,Bool.and_self],b0⟩
  |_=>
   simp only[tp,Bool.and_eq_true] at aq
   simp only[tn] at h
   obtain⟨bE,b0⟩:=x6 l aq.2 h
   exact⟨by simp only[aE.bX,List.all_cons,aq.1,bE,Bool.and_self],b0⟩
theorem Et{s:aE}{K:cO}(h:(ve s K).p):s.den.cells=tm s/\(tm s).all I.cQ=true/\K.p:=by
 cases s with
 |o a=>
  obtain⟨ab,ad⟩:=h
  refine⟨?_,by simp[tm,ab],ad⟩
  show a.cells=[a]
  cases a<;>first|rfl|cases ab
 |j4 l=>
  simp only[ve] at h
  split at h
  · rename_i aq;exact⟨rfl,x6 l aq h⟩
  · cases h
 |_=>
  simp only[ve] at h
  split at h
  · rename_i aq;exact⟨rfl,aq,h⟩
  · cases h
theorem lh:∀l:List aE,aE.bX l=l.map aE.den
 |[]=>rfl
 |s::l=>by simp only[aE.bX,List.map_cons,lh l]
theorem SF{s:aE}(h:(aE.bX (mE s)).all I.cQ=true):s.den.cells=aE.bX (mE s)/\s.den≠ .bad:=by
 have one:∀a:I,a.cQ=true->a.cells=[a]/\a≠ .bad:=λa aS=>by cases a<;>first|(cases aS;done)|exact⟨rfl,λh=>by cases h⟩
 have key:mE s=[s]->s.den.cells=aE.bX (mE s)/\s.den≠ .bad:=λe=>by
  rw[e] at h⊢
  simp only[aE.bX,List.all_cons,List.all_nil,Bool.and_true] at h⊢
  exact one _ h
 cases s with
 |j4 l=>exact⟨rfl,nofun⟩
 |v a=>
  cases a with
  |agg cs=>
   refine⟨?_,nofun⟩
   show cs=aE.bX (cs.map lg)
   rw[lh,List.map_map]
   have:aE.den∘lg=id:=funext x4
   rw[this,List.map_id]
  |_=>exact key rfl
 |_=>exact key rfl
theorem SG{place:Nat->Option (Nat×Nat)}{cells:List I}{i:Nat}{v:I}{rest:List (Nat×I)}{off size:Nat}(aB:v≠ .bad)(aO:place i=some (off,size))(ae:(Nat.beq v.cells.length size&&Nat.ble (off+size) cells.length)=true){cs:List I}(ag:fN off v.cells cells=some cs):jE place cells ((i,v)::rest)=jE place cs rest:=by
 cases v<;>first|exact absurd rfl aB|simp only[jE,aO,ae,ag]
theorem Eu{place:Nat->Option (Nat×Nat)}:∀(ps:List (Nat×aE)) (cells cs:List aE),tq place cells ps=some cs->(aE.bX (nw ps)).all I.cQ=true->jE place (aE.bX cells) (ps.map λp=>(p.1,p.2.den))=some (aE.bX cs)
 |[],cells,cs,h,_=>by cases h;rfl
 |(i,s)::rest,cells,cs,h,aS=>by
  simp only[nw,lh,List.map_append,List.all_append,Bool.and_eq_true] at aS
  rw[<-lh,<-lh] at aS
  obtain⟨bE,b0⟩:=SF aS.1
  simp only[tq] at h
  split at h
  · cases h
  · rename_i off size aO
    split at h
    · rename_i ae
      have aw:(aE.bX (mE s)).length=(mE s).length:=by rw[lh,List.length_map]
      have ag:(aE.bX cells).length=cells.length:=by rw[lh,List.length_map]
      have fw:=ae
      simp only[Bool.and_eq_true,Nat.ble_eq] at fw
      have bw:=Nat.eq_of_beq_eq_true fw.1
      have w0:fN off s.den.cells (aE.bX cells)=some (aE.bX (cells.take off++mE s++(cells.drop off).drop (mE s).length)):=by
       have:=x0 ((aE.bX cells).take off) (aE.bX (mE s)) ((aE.bX cells).drop off) aS.1 (by simp;omega)
       rw[List.length_take,Nat.min_eq_left (by omega),List.take_append_drop] at this
       rw[bE,this,aw]
       simp only[lh,List.map_append,List.map_take,List.map_drop,List.append_assoc]
      rw[List.map_cons,SG b0 aO (by rw[bE,aw,ag];exact ae) w0]
      exact Eu rest _ cs h aS.2
    · cases h
theorem J2{place:Nat->Option (Nat×Nat)}:∀(ps:List (Nat×aE)) (cells cs:List aE),tq place cells ps=some cs->(aE.bX cells).all I.cQ=true->(aE.bX (nw ps)).all I.cQ=true->(aE.bX cs).all I.cQ=true
 |[],cells,cs,h,ag,_=>by cases h;exact ag
 |(i,s)::rest,cells,cs,h,ag,aS=>by
  simp only[nw,lh,List.map_append,List.all_append,Bool.and_eq_true] at aS
  rw[<-lh,<-lh] at aS
  simp only[tq] at h
  split at h
  · cases h
  · split at h
    · refine J2 rest _ cs h ?_ aS.2
      rw[lh] at ag⊢
      rw[List.all_eq_true] at ag⊢
      have ab:=aS.1
      rw[lh,List.all_eq_true] at ab
      intro x aa
      rw[List.map_append,List.map_append,List.mem_append,List.mem_append] at aa
      rcases aa with(aa|aa)|aa
      · rw[List.map_take] at aa;exact ag x (List.mem_of_mem_take aa)
      · exact ab x aa
      · rw[List.map_drop,List.map_drop] at aa;exact ag x (List.mem_of_mem_drop (List.mem_of_mem_drop aa))
    · cases h
theorem J3{t:TypeId}{len:Nat}{ps:List (Nat×aE)}{K:TypeId->List aE->cO}(h:(AY P t len ps K).p):∃e sz z cs,P.underlying t=some (.slice e)/\dh P e=some sz/\d_ P e=some z/\(Nat.ble (len*sz) 16777216&&Nat.beq z.cells.length sz)=true/\jE (λi=>some (i*sz,sz)) (if len*sz=0 then[] else fc len z.cells) (ps.map λp=>(p.1,p.2.den))=some (aE.bX cs)/\(aE.bX cs).all I.cQ=true/\(K e cs).p:=by
 unfold AY at h
 split at h
 · rename_i e hu
   split at h
   · rename_i sz z hs aZ
     split at h
     · rename_i cs ab ad ar aJ
       obtain⟨cw,k⟩:=x6 _ aJ h
       have df:aE.bX ((if len*sz=0 then[] else fc len z.cells).map lg)=(if len*sz=0 then[] else fc len z.cells):=by rw[lh,List.map_map,show aE.den∘lg=id from funext x4,List.map_id]
       have hf:=Eu _ _ _ ar cw
       have ag:=J2 _ _ _ ar (by rw[df];exact ad) cw
       rw[df] at hf
       exact⟨e,sz,z,cs,hu,hs,aZ,ab,hf,ag,tr k⟩
     · cases h
   · cases h
 · cases h
theorem J4{g:Operand->aE}(parts:Array (Nat×Operand)):(parts.toList.map λp=>(p.1,g p.2)).map (λp=>(p.1,p.2.den))=parts.toList.map λp=>(p.1,(g p.2).den):=by
 rw[List.map_map];rfl
theorem J5{ew:Option pc}{t:TypeId}{f:aI}{args:List I}{d:List bQ}{q:bD}{h:J}{K:pd}{bT:pe}(aa:(AZ P call ew t f args d q h K bT).p):h5 (wN d q (call f args h)) K bT:=by
 unfold AZ at aa
 split at aa
 · obtain⟨x,g,e,k⟩:=ts aa
   rw[e];exact .inr ⟨_,_,_,_,rfl,k⟩
 · rcases aa with aa|aa
   · obtain⟨x,g,e,k⟩:=ts aa
     rw[e];exact .inl ⟨_,_,_,_,rfl,k⟩
   · obtain⟨x,g,e,k⟩:=ts aa
     rw[e];exact .inr ⟨_,_,_,_,rfl,k⟩
 · obtain⟨x,g,e,k⟩:=ts aa
   rw[e];exact .inl ⟨_,_,_,_,rfl,k⟩
theorem tt{ew:Option pc}{o:Oper}{g:Operand->aE}{d:List bQ}{q:bD}{h:J}{K:pd}{bT:pe}(aa:(qm P inR call ew o g d q h K bT).p):h5 (dL P inR call none o (λx=>(g x).den) d q h) K bT:=by
 unfold qm at aa
 split at aa
 · split at aa
   · rename_i v an he
     split at aa
     · exact h5.val (s:=.o v) he aa
     · exact h5.val (s:=.v v) he aa
   · rename_i v an he
     exact .inr ⟨v,d,q,an,by simp only[dL,ep,he],aa⟩
   · rename_i f args an he
     have:=J5 aa
     simpa only[dL,ep,he] using this
   · rename_i l args an he
     have:=J5 aa
     simpa only[dL,ep,he] using this
   · rename_i x he
     split at aa
     · cases aa
     · exact .inl ⟨.v (.aP []),_,_,_,by simp only[dL,ep,he];rfl,aa⟩
   · rename_i he
     split at aa
     · cases aa
     · split at aa
       · exact .inl ⟨.v .eS,_,_,_,by simp only[dL,ep,he];rfl,aa⟩
       · exact .inl ⟨.v .eS,_,_,_,by simp only[dL,ep,he];rfl,aa⟩
       · rename_i v
         exact .inl ⟨.v v,_,_,_,by simp only[dL,ep,he];rfl,aa⟩
   · cases aa
 · obtain⟨x,c,k⟩:=ts aa
   exact h5.val (ta c) k
 · obtain⟨x,an,c,k⟩:=ts aa
   exact h5.val (D4 c) k
theorem SH{op:BinOp}{x y s:aE}(aa:El op x y=some s)(h:J)(t:TypeId)(a b:Operand):eB P h op t a b x.den y.den=some s.den:=by
 unfold El at aa
 split at aa
 · rename_i k cy ea hK
   split at aa
   · rename_i aq
     obtain rfl:k=ea:=of_decide_eq_true aq
     split at aa<;>first|(cases aa;done)|(cases aa;simp only[aE.den,eB,arith,if_true,aE.ku])
   · cases aa
 · cases aa
theorem SI{op:BinOp}{x y s:aE}{t:TypeId}(aa:Eo P op t x y=some s)(h:J)(a b:Operand):eB P h op t a b x.den y.den=some s.den:=by
 unfold Eo at aa
 split at aa
 · rename_i ae hu
   rw[Bool.and_eq_true] at ae
   cases aa
   rw[aE.pf ae.1,aE.pf ae.2]
   simp only[eB,qM,if_true,fO,hu,aE.den,eR]
 · rename_i ae hu
   rw[Bool.and_eq_true] at ae
   cases aa
   rw[aE.pf ae.1,aE.pf ae.2]
   simp only[eB,qM,if_true,fO,hu,aE.den,aE.ku,eR]
 · cases aa
theorem SJ{op:BinOp}{x y:aE}{p:Prop}{v:I}(aa:Em op x y=some (p,v))(aO:p)(h:J)(t:TypeId)(a b:Operand):eB P h op t a b x.den y.den=some v:=by
 unfold Em at aa
 split at aa
 · rename_i k cy ea hK
   split at aa
   · rename_i aq;cases aa;obtain rfl:=of_decide_eq_true aq
     simp only[aE.den,eB,if_true];exact Sp aO
   · rename_i aq;cases aa;obtain rfl:=of_decide_eq_true aq
     simp only[aE.den,eB,if_true];exact vb aO.1 aO.2
   · rename_i aq;cases aa;obtain rfl:=of_decide_eq_true aq
     simp only[aE.den,eB,if_true];exact Sq aO
   · rename_i aq;cases aa;obtain rfl:=of_decide_eq_true aq
     simp only[aE.den,eB,if_true];exact Ss aO
   · rename_i aq;cases aa;obtain rfl:=of_decide_eq_true aq
     simp only[aE.den,eB,if_true];exact St aO.1 aO.2
   · cases aa
 · split at aa
   · cases aa
     simp only[aE.den,eB];exact hy aO
   · cases aa
 · cases aa
theorem SK{ew:Option pc}{o:Oper}{g:Operand->aE}{d:List bQ}{q:bD}{h:J}{K:pd}{bT:pe}(aa:(Ep P inR call ew o g d q h K bT).p):h5 (dL P inR call none o (λx=>(g x).den) d q h) K bT:=by
 unfold Ep at aa
 split at aa
 · rename_i x a2
   exact h5.val (s:=g x) (by simp only[cB,a2]) (aE.lV aa)
 · rename_i x a2
   exact h5.val (s:=g x) (by simp only[cB,a2]) (aE.lV aa)
 · rename_i t x a2
   split at aa
   · rename_i ae
     exact h5.val (s:=.bP (g x)) (by simp only[cB,a2,aE.pf ae];rfl) (aE.lV aa)
   · cases aa
 · rename_i op t x y yt a2
   replace aa:=aE.lV (aE.lV aa)
   have key:∀{s:aE},eB P h op t x y (g x).den (g y).den=some s.den->(K s d q h).p->h5 (dL P inR call none o (λx=>(g x).den) d q h) K bT:=λ{s} e k=>h5.val (s:=s) (by simp only[cB,a2,e,fC]) k
   split at aa
   · rename_i s hs
     split at hs
     · rename_i bg dp;cases hs;exact key (SH dp h t x y) aa
     · exact key (SI hs h x y) aa
   · split at aa
     · split at aa
       · rename_i v aB;exact key (s:=lg v) (by rw[x4];exact aB) (aE.lV aa)
       · cases aa
     · split at aa
       · rename_i p v aO
         cases ew with
         |none=>exact key (s:=.v v) (SJ aO aa.1 h t x y) aa.2
         |some _=>cases aO
       · exact tt aa
 · rename_i x i a2
   split at aa
   · rename_i l aw
     split at aa
     · rename_i s hs
       exact h5.val (s:=s) (by simp only[cB,a2,aw,aE.den,JW _ _ _ hs,fC]) (aE.lV aa)
     · cases aa
   · exact tt aa
 · rename_i t x i a2
   split at aa
   · rename_i m e b off n hu eV af
     split at aa
     · rename_i sz aZ
       exact h5.val (s:=.v (.ptr b (off+n*sz))) (by simp only[cB,a2,hu,eV,aE.den,af,aZ,if_pos aa.1]) aa.2
     · cases aa
   · rename_i e b off m c n hu eV af
     split at aa
     · rename_i sz aZ
       exact h5.val (s:=.v (.ptr b (off+n*sz))) (by simp only[cB,a2,hu,eV,aE.den,af,aZ,if_pos aa.1]) aa.2
     · cases aa
   · cases aa
 · rename_i t a x a2
   split at aa
   · rename_i b off n tu aZ
     split at aa
     · rename_i aw
       obtain⟨aA,ay,gg,bx,k⟩:=Et (aE.lV aa)
       have ag:u2 P o (λy=>(g y).den) h (.aP []) gg:=by
        unfold u2
        rw[a2]
        simp only[tu]
        rw[aA]
        exact⟨by rw[aZ,Nat.eq_of_beq_eq_true aw],bx,trivial⟩
       exact h5.val (s:=.v (.aP [])) (D4 ag) k
     · cases aa
   · cases aa
 · rename_i t parts a2
   split at aa
   · exact tt aa
   · split at aa
     · rename_i z bR aZ hu
       split at aa
       · rename_i cs ab ad ar
         obtain⟨cw,k⟩:=x6 _ ar aa
         have hf:=Eu _ _ _ ad cw
         rw[show aE.bX (z.cells.map lg)=z.cells by rw[lh,List.map_map,show aE.den∘lg=id from funext x4,List.map_id],List.map_map] at hf
         exact h5.val (s:=.j4 cs) (by simp only[cB,a2,aZ,hu,ab];exact by rw[show(parts.toList.map λp=>(p.1,(g p.2).den))=parts.toList.map ((λp=>(p.1,aE.den p.2))∘ λp=>(p.1,g p.2)) from rfl,hf];rfl) (tr k)
       · cases aa
     · cases aa
 · rename_i t len parts a2
   split at aa
   · exact tt aa
   · obtain⟨e,sz,z,cs,hu,hs,aZ,ab,hf,ag,k⟩:=J3 aa
     rw[J4] at hf
     exact h5.val (s:=.v (.slice h.n 0 len (.exact len))) (by simp only[cB,a2,hu,hs,aZ,ab,hf,newRow,ag];rfl) k
 · rename_i e x a2
   obtain⟨aA,ay,k⟩:=Et (aE.lV aa)
   exact h5.val (s:=.v (.ptr h.n 0)) (by simp only[cB,a2,newRow,aA,ay];rfl) k
 · rename_i c a2
   split at aa
   · rename_i jf
     split at aa
     · rename_i a t aS a_
       obtain⟨n,e,k⟩:=aa
       have hx:c.args.toList.map (λy=>(g y).den)=[a]:=by
        have:(c.args.toList.map g).map aE.den=[a]:=by rw[aS];rfl
        rw[List.map_map] at this;exact this
       have ag:n_ P o (λy=>(g y).den) h (.int .i64 (.ofNat n)):=by
        unfold n_
        rw[a2]
        simp only[jf,hx,a_]
        exact e
       exact h5.val (s:=.v (.int .i64 (.ofNat n))) (ta ag) k
     · exact tt aa
   · exact tt aa
 · exact tt aa
end
end aM
namespace aM
open Go
def keyOf(ih i:Nat)(o:Oper):Nat:=match o.dst with
 |some t=>t
 |none=>3000+50*ih+i
section
variable (P:Program) (need:Nat)
def kV(m:Nat)(env:List aE)(Γ:c6)(loc:List (Nat×Acc))(x:Operand):aE:=match lT m env Γ (cE P need loc x) with
 |some s=>s
 |none=>.v .bad
def A1(m:Nat)(env:List aE)(Γ:c6)(loc:List (Nat×Acc))(o:Oper):Bool:=o.op.operands.toList.all λx=>(lT m env Γ (cE P need loc x)).isSome
def A2(ew:Option Bool)(gd:Option (Acc×Bool))(m:Nat)(env:List aE)(Γ:c6)(vi vj:List aE->c6->cO):cO:=match gd with
 |none=>vi env Γ
 |some (a,b)=>match lT m env Γ a with
  |none=>bad "guard"
  |some s=>match s with
   |.v (.aP [])=>vj env Γ
   |s=>s.hO ew (rE (vd m a .iT env) λenv=>nv (tk a .iT Γ) λΓ=>(match b with|true=>vi env Γ|false=>vj env Γ)) (rE (vd m a .jO env) λenv=>nv (tk a .jO Γ) λΓ=>(match b with|true=>vj env Γ|false=>vi env Γ))
variable (inR:Bool) (call:aI->List I->J->av)
def x7(pl:kx)(key m:Nat)(env:List aE)(Γ:c6)(loc:List (Nat×Acc))(o:Oper)(d:List bQ)(q:bD)(h:J)(K:List aE->c6->pd)(bT:c6->pe):cO:=match o.op with
 |.pick c a b=>match lT m env Γ (cE P need loc c) with
  |none=>bad "pick"
  |some s=>s.hO (AX (tl (2000+key) pl)) (rE (vd m (cE P need loc c) .iT env) λe8=>nv (tk (cE P need loc c) .iT Γ) λcg=>(kV P need m env Γ loc a).lU λx=>K e8 cg x d q h) (rE (vd m (cE P need loc c) .jO env) λe8=>nv (tk (cE P need loc c) .jO Γ) λcg=>(kV P need m env Γ loc b).lU λx=>K e8 cg x d q h)
 |_=>Ep P inR call (tl key pl) o (kV P need m env Γ loc) d q h (K env Γ) (bT Γ)
def x8(pl:kx)(ih:Nat):List Step->List aE->c6->List bQ->bD->J->(List aE->c6->List bQ->bD->J->cO)->(I->c6->List bQ->bD->J->cO)->cO
 |[],env,Γ,d,q,h,K,_=>K env Γ d q h
 |s::rest,env,Γ,d,q,h,K,bT=>match A1 P need s.m env Γ s.loc s.o with
  |false=>bad ("an operand " ++s.o.pos)
  |true=>A2 (AX (tl (1000+keyOf ih s.m s.o) pl)) s.guard s.m env Γ
   (λenv Γ=>x7 P need inR call pl (keyOf ih s.m s.o) s.m env Γ s.loc s.o d q h (λenv Γ v d q h=>x8 pl ih rest (v::env) Γ d q h K bT) (λΓ v d q h=>bT v Γ d q h))
   (λenv Γ=>x8 pl ih rest (.v (.aP [])::env) Γ d q h K bT)
def tv(t:Nat):c6->c6
 |[]=>[]
 |(u,s)::l=>match Nat.beq t u with
  |true=>tv t l
  |false=>(u,s)::tv t l
def tw(m:Nat)(env:List aE)(gx:c6):List (Nat×Acc)->c6->c6
 |[],Γ=>Γ
 |(t,a)::l,Γ=>match Nat.testBit need t with
  |true=>match lT m env gx a with
   |some s=>(t,s)::tv t (tw m env gx l Γ)
   |none=>tv t (tw m env gx l Γ)
  |false=>tw m env gx l Γ
def x9:List (Nat×Acc)->c6->c6
 |[],Γ=>Γ
 |(t,_)::l,Γ=>tv t (x9 l Γ)
abbrev mF:=List (Nat×Nat×J×Nat)
def ij:mF->np
 |[]=>[]
 |(e,m,h,_)::l=>(e,m,h)::ij l
def A3(o:Oper)(g:Operand->aE):Bool:=match o.op with
 |.move _|.assign _|.pick .. |.build .. |.nilCheck _|.makeInterface .. |.makeFunc .. |.fieldAddr .. |.field .. |.indexAddr .. |.index .. |.extract .. |.typeAssert .. =>true
 |.unOp .. =>true
 |.binOp _ _ x y _=>match g x,g y with
  |.v (.int _ _),.v (.int _ _)=>true
  |.v (.str _),.v (.str _)=>true
  |x,y=>x.tg&&y.tg
 |.call c=>match c.callee with
  |.builtin .len=>match c.argTypes[0]? with
   |some t=>match P.underlying t with
    |some (.slice _)=>true
    |some .string=>true
    |_=>false
   |none=>false
  |_=>false
 |_=>false
def vk:List aE->cO->cO
 |[],K=>K
 |.o a::l,K=>gh (a.sound=true) (vk l K)
 |s::l,K=>match s.den.sound with
  |true=>vk l K
  |false=>bad "sound"
def Ev:aE->cO->cO
 |.o a,K=>gh (a.sound=true) K
 |.iT,K|.jO,K|.lt _ _,K|.le _ _,K|.eq _ _,K|.bP _,K=>K
 |.v a,K=>match a.sound with
  |true=>K
  |false=>bad "sound"
 |.j4 l,K=>vk l K
 |.fG l,K=>match jw (aE.bX l) with
  |true=>K
  |false=>bad "sound"
def vl(s:DStep)(gR:Nat):Option Nat->J->Nat->mF->List (Option J)
 |dQ,h,cx,bc=>
  (match qj s dQ (ij bc) with
   |true=>[]
   |false=>[match Nat.beq cx gR with|true=>none|false=>some h])++
  (match bc with
   |[]=>[]
   |(e,_,an,kW)::rest=>vl s gR (some e) an kW rest)
def vm(o:Oper)(g:Operand->I)(v:I)(rG:Bool):List (Option J)->cO->cO
 |[],K=>K
 |none::l,K=>vm o g v rG l K
 |some h::l,K=>match rG with
  |true=>vm o g v rG l K
  |false=>gh (n_ P o g h v) (vm o g v rG l K)
def lj(ops:Array Oper)(n:Nat)(env:List aE)(dD:List Nat)(Γ:c6)(last:Option Nat)(h:J)(cx:Nat)(bc:mF):List DStep->cO->cO
 |[],K=>K
 |s::rest,K=>match Nat.blt s.i n,kindOf P s.o.op with
  |true,.pure=>match ti (n-1-s.i) env,nth (n-1-s.i) dD with
   |some v,some gR=>match vl s gR last h cx bc with
    |[]=>lj ops n env dD Γ last h cx bc rest K
    |l=>match v with
     |.v (.aP [])=>match jr P need ops s.loc s.o with
      |some (a,b)=>match lT n env Γ a with
       |some (.v (.aP []))=>lj ops n env dD Γ last h cx bc rest K
       |some .iT=>match b with
        |false=>lj ops n env dD Γ last h cx bc rest K
        |true=>bad "look"
       |some .jO=>match b with
        |true=>lj ops n env dD Γ last h cx bc rest K
        |false=>bad "look"
       |_=>bad "look"
      |none=>bad "look"
     |v=>Ev v (vm P s.o (λx=>(kV P need n env Γ s.loc x).den) v.den (A3 P s.o (kV P need n env Γ s.loc)) l (lj ops n env dD Γ last h cx bc rest K))
   |_,_=>bad "look"
  |_,_=>lj ops n env dD Γ last h cx bc rest K
def Ew(op:Op)(g:Operand->aE)(b:Nat)(K:aE->da->cO):cO:=match op with
 |.box e x=>(g x).lU λs=>ve s (K (.v (.ptr b 0)) (.cells (tm s) e .own 0 0))
 |.makeSlice t l c=>match eC (g l).den with
  |some nZ=>gD λz:da=>gh (Jm P t (g l).den (g c).den b=some (.slice b 0 nZ (match eC (g c).den with|some c'=>.exact c'|none=>.dead),z)) (K (.v (.slice b 0 nZ (match eC (g c).den with|some c'=>.exact c'|none=>.dead))) z)
  |none=>bad "makeSlice"
 |.buildSlice t len parts=>match(nw (parts.toList.map λp=>(p.1,g p.2))).any aE.En with
  |true=>AY P t len (parts.toList.map λp=>(p.1,g p.2)) λe cs=>K (.v (.slice b 0 len (.exact len))) (.cells (aE.bX cs) e .own 0 0)
  |false=>match jX P (.buildSlice t len parts) (λx=>(g x).den) b with
   |some (v,o)=>K (.v v) o
   |none=>bad "alloc"
 |op=>match jX P op (λx=>(g x).den) b with
  |some (v,o)=>K (.v v) o
  |none=>bad "alloc"
abbrev rH:=List aE->List Nat->c6->List bQ->bD->J->Nat->mF->cO
def rI(pl:kx)(ih:Nat)(ops:Array Oper)(cA:Nat):List DStep->List aE->List Nat->c6->List bQ->bD->J->Nat->mF->rH->(I->rH)->cO
 |[],env,dD,Γ,d,q,h,cx,bc,K,_=>K env dD Γ d q h cx bc
 |s::rest,env,dD,Γ,d,q,h,cx,bc,K,bT=>match A1 P need s.i env Γ s.loc s.o with
  |false=>bad ("an operand " ++s.o.pos)
  |true=>A2 (AX (tl (1000+keyOf ih s.i s.o) pl)) (jr P need ops s.loc s.o) s.i env Γ
   (λenv Γ=>match kindOf P s.o.op with
    |.alloc=>Ew P s.o.op (kV P need s.i env Γ s.loc) (cA+s.i) λv o=>rI pl ih ops cA rest (v::env) (cx::dD) Γ d q (h.set (cA+s.i) (some o)) (cx+1) bc K bT
    |.pure=>x7 P need inR call pl (keyOf ih s.i s.o) s.i env Γ s.loc s.o d q h (λenv Γ v _ _ _=>rI pl ih ops cA rest (v::env) (cx::dD) Γ d q h cx bc K bT) (λ_ _ _ _ _=>bad "a panic")
    |.eb=>match s8 s (ij bc) with
     |false=>bad "order"
     |true=>x7 P need inR call pl (keyOf ih s.i s.o) s.i env Γ s.loc s.o d q h (λenv Γ v bf bj an=>rI pl ih ops cA rest (v::env) (cx::dD) Γ bf bj an (cx+1) ((s.i,s.eT,h,cx)::bc) K bT)
      (λΓ v bf bj an=>match rest.all (λbg=>Nat.testBit bg.eT s.i) with
       |true=>bT v env dD Γ bf bj an (cx+1) ((s.i,s.eT,h,cx)::bc)
       |false=>bad "panic"))
   (λenv Γ=>match kindOf P s.o.op with
    |.eb=>match s8 s (ij bc) with
     |false=>bad "order"
     |true=>rI pl ih ops cA rest (.v (.aP [])::env) (cx::dD) Γ d q h cx ((s.i,s.eT,h,cx)::bc) K bT
    |_=>rI pl ih ops cA rest (.v (.aP [])::env) (cx::dD) Γ d q h cx bc K bT)
end
end aM
namespace aM
open Go
section
variable {P:Program} {need:Nat} {inR:Bool} {call:aI->List I->J->av}
theorem Ex{m:Nat}{env:List aE}{Γ:c6}{loc:List (Nat×Acc)}{x:Operand}:(kV P need m env Γ loc x).den=(g3 m (aE.bX env) (cS Γ) (cE P need loc x)).getD .bad:=by
 rw[<-vf]
 unfold kV
 split<;>rename_i h<;>rw[h]<;>rfl
theorem J6{m:Nat}{env:List aE}{Γ:c6}{loc:List (Nat×Acc)}{o:Oper}(h:A1 P need m env Γ loc o=true):∀x∈o.op.operands,(g3 m (aE.bX env) (cS Γ) (cE P need loc x)).isSome=true:=by
 intro x aa
 unfold A1 at h
 rw[List.all_eq_true] at h
 have:=h x (by simpa using aa)
 rw[<-vf,Option.isSome_map];exact this
theorem Ey{r:aY}{G:Env}(hm:Mod r G){m:Nat}{l:List I}{loc:List (Nat×Acc)}{o:Oper}(h:∀x∈o.op.operands,(g3 m l G (cE P need loc x)).isSome=true):∀x∈o.op.operands,dt m l r (cE P need loc x)=(g3 m l G (cE P need loc x)).getD .bad:=by
 intro x aa
 obtain⟨v,aB⟩:=Option.isSome_iff_exists.1 (h x aa)
 rw[vg hm aB,aB];rfl
def oe(m:Nat)(l:List I)(G:Env)(gd:Option (Acc×Bool))(W:Bool):Prop:=match gd with
 |none=>W=true
 |some (a,b)=>∃kX,g3 m l G a=some kX/\ep (some (kX,b))=some W
theorem oe.ok{m:Nat}{l:List I}{G:Env}{gd:Option (Acc×Bool)}{W:Bool}(h:oe m l G gd W){r:aY}(hm:Mod r G):ep (gd.map λx=>(dt m l r x.1,x.2))=some W:=by
 cases gd with
 |none=>cases h;rfl
 |some x=>
  obtain⟨kX,ab,ad⟩:=h
  simp only[Option.map_some,vg hm ab,ad]
theorem oe.more{m:Nat}{l:List I}{G:Env}{gd:Option (Acc×Bool)}{W:Bool}(h:oe m l G gd W)(x:I):oe (m+1) (x::l) G gd W:=by
 cases gd with
 |none=>exact h
 |some y=>
  obtain⟨kX,ab,ad⟩:=h
  exact⟨kX,x5 x ab,ad⟩
theorem J7{ew:Option Bool}{gd:Option (Acc×Bool)}{m:Nat}{env:List aE}{Γ:c6}{vi vj:List aE->c6->cO}(h:(A2 ew gd m env Γ vi vj).p):
  ∃e8 cg,aE.bX e8=aE.bX env/\cS cg=cS Γ/\e8.length=env.length/\(((vi e8 cg).p/\oe m (aE.bX env) (cS Γ) gd true)\/((vj e8 cg).p/\oe m (aE.bX env) (cS Γ) gd false)):=by
 unfold A2 at h
 split at h
 · exact⟨env,Γ,rfl,rfl,rfl,.inl ⟨h,rfl⟩⟩
 · rename_i a b
   split at h
   · cases h
   · rename_i s hs
     have jL:g3 m (aE.bX env) (cS Γ) a=some s.den:=by rw[<-vf,hs];rfl
     split at h
     · exact⟨env,Γ,rfl,rfl,rfl,.inr ⟨h,_,jL,rfl⟩⟩
     · obtain⟨ae,aa⟩:=A0 _ h
       have ao:=aE.pf ae
       rcases aa with⟨a_,aq⟩|⟨a_,aq⟩
       · rw[a_] at ao
         obtain⟨aA,ay,bx⟩:=vh (x:=.iT) hs ao
         refine⟨_,_,aA,ay,bx,?_⟩
         have aq:=od (tr aq)
         cases b with
         |true=>exact .inl ⟨aq,_,jL,by rw[ao];rfl⟩
         |false=>exact .inr ⟨aq,_,jL,by rw[ao];rfl⟩
       · rw[a_] at ao
         obtain⟨aA,ay,bx⟩:=vh (x:=.jO) hs ao
         refine⟨_,_,aA,ay,bx,?_⟩
         have aq:=od (tr aq)
         cases b with
         |true=>exact .inr ⟨aq,_,jL,by rw[ao];rfl⟩
         |false=>exact .inl ⟨aq,_,jL,by rw[ao];rfl⟩
theorem Ez{pl:kx}{key m:Nat}{env:List aE}{Γ:c6}{loc:List (Nat×Acc)}{o:Oper}{d:List bQ}{q:bD}{h:J}{K:List aE->c6->pd}{bT:c6->pe}(aa:(x7 P need inR call pl key m env Γ loc o d q h K bT).p):
  ∃e8 cg,aE.bX e8=aE.bX env/\cS cg=cS Γ/\e8.length=env.length/\h5 (dL P inR call none o (λx=>(g3 m (aE.bX env) (cS Γ) (cE P need loc x)).getD .bad) d q h) (K e8 cg) (bT cg):=by
 have al:(λx=>(g3 m (aE.bX env) (cS Γ) (cE P need loc x)).getD .bad)=λx=>(kV P need m env Γ loc x).den:=funext λx=>Ex.symm
 unfold x7 at aa
 split at aa
 · rename_i c a b a2
   split at aa
   · cases aa
   · rename_i s hs
     obtain⟨ae,aW⟩:=A0 _ aa
     have ao:=aE.pf ae
     have AL:(kV P need m env Γ loc c).den=s.den:=by unfold kV;rw[hs]
     rw[al]
     rcases aW with⟨a_,aq⟩|⟨a_,aq⟩
     · rw[a_] at ao
       obtain⟨aA,ay,bx⟩:=vh (x:=.iT) hs ao
       exact⟨_,_,aA,ay,bx,h5.val (s:=kV P need m env Γ loc a) (by simp only[cB,a2,AL,ao]) (aE.lV (od (tr aq)))⟩
     · rw[a_] at ao
       obtain⟨aA,ay,bx⟩:=vh (x:=.jO) hs ao
       exact⟨_,_,aA,ay,bx,h5.val (s:=kV P need m env Γ loc b) (by simp only[cB,a2,AL,ao]) (aE.lV (od (tr aq)))⟩
 · rw[al]
   exact⟨env,Γ,rfl,rfl,rfl,SK aa⟩
theorem EA{r:aY}{s:Step}{rest:List Step}{env:List I}{d:List bQ}{q:bD}{h:J}:h_ P need inR call r (s::rest) env d q h=match dL P inR call (s.guard.map λx=>(dt s.m env r x.1,x.2)) s.o (λx=>dt s.m env r (cE P need s.loc x)) d q h with
  |.ok v bf bj an=>h_ P need inR call r rest (v::env) bf bj an
  |.b4 v bf bj an=>.b4 v bf bj an
  |.fail w=>.fail w:=by
 obtain⟨gd,o,loc,m⟩:=s
 cases gd<;>rfl
theorem EB{pl:kx}{ih:Nat}:∀(l:List Step) (env:List aE) (Γ:c6) (d:List bQ) (q:bD) (h:J) {K:List aE->c6->List bQ->bD->J->cO} {bT:I->c6->List bQ->bD->J->cO},(x8 P need inR call pl ih l env Γ d q h K bT).p->
  (∃e8 cg bf bj an,(∀r,Mod r (cS Γ)->h_ P need inR call r l (aE.bX env) d q h=.ok (aE.bX e8) bf bj an)/\cS cg=cS Γ/\(K e8 cg bf bj an).p)\/∃v cg bf bj an,(∀r,Mod r (cS Γ)->h_ P need inR call r l (aE.bX env) d q h=.b4 v bf bj an)/\cS cg=cS Γ/\(bT v cg bf bj an).p
 |[],env,Γ,d,q,h,K,bT,aa=>.inl ⟨env,Γ,d,q,h,λ_ _=>rfl,rfl,aa⟩
 |s::rest,env,Γ,d,q,h,K,bT,aa=>by
  simp only[x8] at aa
  split at aa
  · cases aa
  · rename_i aq
    have iA:∀r,Mod r (cS Γ)->∀gd,dL P inR call gd s.o (λx=>dt s.m (aE.bX env) r (cE P need s.loc x)) d q h=dL P inR call gd s.o (λx=>(g3 s.m (aE.bX env) (cS Γ) (cE P need s.loc x)).getD .bad) d q h:=λr hm gd=>s0 (Ey hm (J6 aq))
    obtain⟨nx,hh,aA,ay,bx,hw⟩:=J7 aa
    rcases hw with⟨hw,pg⟩|⟨hw,pg⟩
    · obtain⟨og,Γ2,f1,f2,f3,a2⟩:=Ez hw
      rw[aA,ay] at a2
      rcases a2 with⟨x,d1,ba,ab,he,di⟩|⟨v,d1,ba,ab,he,di⟩
      · have a6:=EB rest (x::og) Γ2 d1 ba ab di
        have key:∀r,Mod r (cS Γ)->h_ P need inR call r (s::rest) (aE.bX env) d q h=h_ P need inR call r rest (aE.bX (x::og)) d1 ba ab:=λr hm=>by
         rw[EA,iA r hm,u6 (pg.ok hm),he]
         simp only[aE.bX,f1,aA]
        rw[f2,ay] at a6
        rcases a6 with⟨e8,cg,bf,bj,an,i1,i2,i3⟩|⟨v,cg,bf,bj,an,i1,i2,i3⟩
        · exact .inl ⟨e8,cg,bf,bj,an,λr hm=>(key r hm).trans (i1 r hm),i2,i3⟩
        · exact .inr ⟨v,cg,bf,bj,an,λr hm=>(key r hm).trans (i1 r hm),i2,i3⟩
      · refine .inr ⟨v,Γ2,d1,ba,ab,λr hm=>?_,f2.trans ay,di⟩
        rw[EA,iA r hm,u6 (pg.ok hm),he]
    · have a6:=EB rest (.v (.aP [])::nx) hh d q h hw
      have key:∀r,Mod r (cS Γ)->h_ P need inR call r (s::rest) (aE.bX env) d q h=h_ P need inR call r rest (aE.bX (.v (.aP [])::nx)) d q h:=λr hm=>by
       rw[EA,xV (pg.ok hm)]
       simp only[aE.bX,aE.den,aA]
      rw[ay] at a6
      rcases a6 with⟨e8,cg,bf,bj,an,i1,i2,i3⟩|⟨v,cg,bf,bj,an,i1,i2,i3⟩
      · exact .inl ⟨e8,cg,bf,bj,an,λr hm=>(key r hm).trans (i1 r hm),i2,i3⟩
      · exact .inr ⟨v,cg,bf,bj,an,λr hm=>(key r hm).trans (i1 r hm),i2,i3⟩
theorem x_(t:Nat):∀Γ:c6,cS (tv t Γ)=del t (cS Γ)
 |[]=>rfl
 |(u,s)::l=>by
  simp only[tv,cS,del]
  cases Nat.beq t u with
  |true=>exact x_ t l
  |false=>simp only[cS];rw[x_ t l]
theorem EC{m:Nat}{env:List aE}{fv:aY}{gx:c6}(hm:Mod fv (cS gx)):∀(l:List (Nat×Acc)) (r:aY) (Γ:c6),Mod r (cS Γ)->Mod (oQ need m (aE.bX env) fv l r) (cS (tw need m env gx l Γ))
 |[],r,Γ,h=>h
 |(t,a)::l,r,Γ,h=>by
  have a6:=EC (m:=m) (env:=env) hm l r Γ h
  simp only[oQ,tw]
  cases Nat.testBit need t with
  |false=>exact a6
  |true=>
   cases al:lT m env gx a with
   |some s=>
    have:g3 m (aE.bX env) (cS gx) a=some s.den:=by rw[<-vf,al];rfl
    simp only[cS,x_]
    rw[vg hm this];exact a6.put t s.den
   |none=>simp only[x_];exact a6.del t _
theorem ED:∀(l:List (Nat×Acc)) (r:aY) (Γ:c6),Mod r (cS Γ)->Mod (ur l r) (cS (x9 l Γ))
 |[],r,Γ,h=>h
 |(t,a)::l,r,Γ,h=>by simp only[x9,x_];exact(ED l r Γ h).del t _
theorem J8:∀(ops:List Oper) (n:Nat) (loc:List (Nat×Acc)) (gB:List Nat) (k:Nat) (s:DStep),(e1 ops n loc gB)[k]? =some s->s.i=n+k
 |[],n,loc,gB,k,s,h=>by simp[e1] at h
 |o::l,n,loc,gB,0,s,h=>by simp only[e1,List.getElem?_cons_zero,Option.some.injEq] at h;rw[<-h];rfl
 |o::l,n,loc,gB,k+1,s,h=>by
  simp only[e1,List.getElem?_cons_succ] at h
  have:=J8 l (n+1) _ _ k s h
  omega
def vn(P:Program)(need:Nat)(ops:Array Oper)(s:DStep)(n:Nat)(l:List I)(G:Env)(dD:List Nat)(H:Nat->J):Prop:=s.i<n/\(kindOf P s.o.op=.pure->(∀x∈s.o.op.operands,(g3 n l G (cE P need s.loc x)).isSome=true)/\∀v gR,nth (n-1-s.i) l=some v->nth (n-1-s.i) dD=some gR->oe n l G (jr P need ops s.loc s.o) false\/(oe n l G (jr P need ops s.loc s.o) true/\∃an,cB P s.o (λx=>(g3 n l G (cE P need s.loc x)).getD .bad) (H gR)=.val v an))
theorem SL{α:Type}{n i:Nat}(h:i<n)(x:α)(l:List α):nth (n+1-1-i) (x::l)=nth (n-1-i) l:=by
 have:n+1-1-i=(n-1-i)+1:=by omega
 rw[this];rfl
theorem J9{α:Type}:∀(n:Nat) (l:List α) (x:α),nth n l=some x->x∈l
 |0,[],_,h=>by cases h
 |_+1,[],_,h=>by cases h
 |0,y::l,x,h=>by cases h;exact List.mem_cons_self
 |n+1,y::l,x,h=>List.mem_cons_of_mem _ (J9 n l x h)
theorem vn.more{ops:Array Oper}{s:DStep}{n:Nat}{l:List I}{G:Env}{dD:List Nat}{H aV:Nat->J}(h:vn P need ops s n l G dD H)(x:I)(y:Nat)(cm:∀gR∈dD,aV gR=H gR):vn P need ops s (n+1) (x::l) G (y::dD) aV:=by
 obtain⟨ab,ad⟩:=h
 refine⟨by omega,λaq=>?_⟩
 obtain⟨bE,b0⟩:=ad aq
 refine⟨λz aZ=>?_,λv gR aB lW=>?_⟩
 · obtain⟨w,hw⟩:=Option.isSome_iff_exists.1 (bE z aZ)
   rw[x5 x hw];rfl
 · rw[SL ab] at aB lW
   rcases b0 v gR aB lW with e|⟨df,an,e⟩
   · exact .inl (e.more x)
   · have SM:=J9 _ _ _ lW
     refine .inr ⟨df.more x,an,?_⟩
     rw[cm gR SM,<-e]
     exact xC s.o _ λz aZ=>by
      obtain⟨w,hw⟩:=Option.isSome_iff_exists.1 (bE z aZ)
      rw[x5 x hw,hw]
end
end aM
namespace aM
open Go
section
variable {P:Program} {need:Nat} {inR:Bool} {call:aI->List I->J->av}
theorem A4:∀l:List aE,(aE.bX l).length=l.length
 |[]=>rfl
 |_::l=>by simp only[aE.bX,List.length_cons,A4 l]
structure mG(P:Program)(need:Nat)(ops:Array Oper)(pre:List DStep)(env:List aE)(dD:List Nat)(Γ:c6)(h:J)(cx:Nat)(bc:mF)(H:Nat->J):Prop where
 cur:H cx=h
 le:∀gR∈dD,gR<=cx
 st:∀z∈bc,z.2.2.2<=cx/\H z.2.2.2=z.2.2.1
 pl:pre.length=env.length
 seen:∀s∈pre,vn P need ops s env.length (aE.bX env) (cS Γ) dD H
theorem mG.push{ops:Array Oper}{pre:List DStep}{env e8:List aE}{dD:List Nat}{Γ cg:c6}{h an:J}{cx kW:Nat}{bc rJ:mF}{H aV:Nat->J}(w:mG P need ops pre env dD Γ h cx bc H){s:DStep}{v:aE}(af:s.i=env.length)(aA:aE.bX e8=aE.bX env)(ay:cS cg=cS Γ)(bx:e8.length=env.length)
  (cm:∀k,k<=cx->aV k=H k)(aB:cx<=kW)(ag:aV kW=an)(hs:∀z∈rJ,z.2.2.2<=kW/\aV z.2.2.2=z.2.2.1)
  (aO:kindOf P s.o.op=.pure->(∀x∈s.o.op.operands,(g3 s.i (aE.bX env) (cS Γ) (cE P need s.loc x)).isSome=true)/\(oe s.i (aE.bX env) (cS Γ) (jr P need ops s.loc s.o) false\/(oe s.i (aE.bX env) (cS Γ) (jr P need ops s.loc s.o) true/\∃lk,cB P s.o (λx=>(g3 s.i (aE.bX env) (cS Γ) (cE P need s.loc x)).getD .bad) h=.val v.den lk))):
  mG P need ops (pre++[s]) (v::e8) (cx::dD) cg an kW rJ aV:=by
 refine⟨ag,λgR lW=>?_,hs,by simp[w.pl,bx],λz aZ=>?_⟩
 · rcases List.mem_cons.1 lW with rfl|lW
   · exact aB
   · exact Nat.le_trans (w.le gR lW) aB
 · rw[List.length_cons,bx,ay]
   simp only[aE.bX,aA]
   rcases List.mem_append.1 aZ with aZ|aZ
   · exact(w.seen z aZ).more _ _ λgR lW=>cm gR (w.le gR lW)
   · obtain rfl:z=s:=by simpa using aZ
     refine⟨by omega,λaq=>?_⟩
     obtain⟨bE,b0⟩:=aO aq
     rw[af] at bE b0
     refine⟨λx aa=>?_,λu gR hu lW=>?_⟩
     · obtain⟨y,aW⟩:=Option.isSome_iff_exists.1 (bE x aa)
       rw[x5 _ aW];rfl
     · have h0:env.length+1-1-z.i=0:=by omega
       rw[h0] at hu lW
       cases hu;cases lW
       rcases b0 with b0|⟨j1,lk,b0⟩
       · exact .inl (b0.more _)
       · refine .inr ⟨j1.more _,lk,?_⟩
         rw[cm cx (Nat.le_refl _),w.cur,<-b0]
         exact xC _ _ λx aa=>by
          obtain⟨y,aW⟩:=Option.isSome_iff_exists.1 (bE x aa)
          rw[x5 _ aW,aW]
theorem ya{ops:Array Oper}{r:aY}{n:Nat}{env:List I}{s:DStep}:gL P need ops r n env s=(jr P need ops s.loc s.o).map λx=>(dt n env r x.1,x.2):=by
 unfold gL
 cases jr P need ops s.loc s.o<;>rfl
def J_:iX->Prop
 |.val _ _=>True
 |.b4 _ _=>True
 |.fail _=>True
 |_=>False
theorem SN{o:Oper}{g:Operand->I}{H:J}(aq:kindOf P o.op=.pure):J_ (cB P o g H):=by
 have gQ:∀(w:String) (x:Option I),J_ (fC H w x):=λw x=>by cases x<;>trivial
 obtain⟨dst,op,type,pos,after,guard⟩:=o
 cases op<;>simp only[kindOf] at aq<;>(try (cases aq;done))<;>unfold cB<;>simp only
 case binOp=>exact gQ _ _
 case slice=>exact gQ _ _
 case lookup=>exact gQ _ _
 case convert s d x=>
  have cV:∀e,P.underlying d≠some (.slice e):=λe he=>by rw[he] at aq;cases aq
  unfold iJ
  repeat' (first|trivial|exact absurd (by assumption) (cV _)|split)
 case call c=>
  cases ag:c.callee with
  |value f=>rw[ag] at aq;cases aq
  |invoke r n=>rw[ag] at aq;cases aq
  |builtin b=>
   rw[ag] at aq
   cases b<;>simp only at aq<;>(try (cases aq;done))<;>simp only[hY]<;>repeat' (first|trivial|exact gQ _ _|split)
 all_goals repeat' (first|trivial|exact gQ _ _|split)
theorem SO{o:Oper}{g:Operand->I}{d d1:List bQ}{q ba:bD}{h ab:J}{v:I}(aq:kindOf P o.op=.pure)(e:dL P inR call none o g d q h=.ok v d1 ba ab):∃an,cB P o g h=.val v an:=by
 have aB:=SN (P:=P) (g:=g) (H:=h) aq
 unfold dL at e
 simp only[ep] at e
 cases a2:cB P o g h<;>rw[a2] at e aB<;>first|(exact aB.elim)|(cases e;done)|(cases e;exact⟨_,rfl⟩)
theorem SP{op:Op}{g:Operand->aE}{b:Nat}{K:aE->da->cO}(h:(Ew P op g b K).p):∃s o,jX P op (λx=>(g x).den) b=some (aE.den s,o)/\(K s o).p:=by
 unfold Ew at h
 split at h
 · rename_i e x
   obtain⟨aA,ay,k⟩:=Et (aE.lV h)
   exact⟨_,_,by simp only[jX,aA,ay];rfl,k⟩
 · rename_i t l c
   split at h
   · obtain⟨z,aZ,k⟩:=h
     exact⟨_,_,Jo (op:=.makeSlice t l c) (v:=aE.den (.v _)) aZ,k⟩
   · cases h
 · rename_i t len parts
   split at h
   · obtain⟨e,sz,z,cs,hu,hs,aZ,ab,hf,ag,k⟩:=J3 h
     rw[J4] at hf
     exact⟨.v _,_,by simp only[jX,hu,hs,aZ,ab,hf,ag];rfl,k⟩
   · split at h
     · rename_i v o aB
       exact⟨.v v,o,aB,h⟩
     · cases h
 · split at h
   · rename_i v o aB
     exact⟨.v v,o,aB,h⟩
   · cases h
def qn(H:Nat->J)(k:Nat)(h:J)(j:Nat):J:=if j=k then h else H j
def ph(P:Program)(need:Nat)(inR:Bool)(call:aI->List I->J->av)(ops:Array Oper)(cA:Nat)(full l:List DStep)(env:List aE)(G:Env)(d:List bQ)(q:bD)(h:J)(bc:mF)(K:rH)(bT:I->rH):Prop:=
 (∃e8 rK cg bf bj an kW rJ aV,(∀r,Mod r G->gj P need inR call ops r cA l (aE.bX env) d q h (ij bc)=.ok (aE.bX e8) bf bj an (ij rJ))/\cS cg=G/\mG P need ops full e8 rK cg an kW rJ aV/\(K e8 rK cg bf bj an kW rJ).p)\/
 ∃v e8 rK cg bf bj an kW e m h0 vo rv aV yb,(∀r,Mod r G->gj P need inR call ops r cA l (aE.bX env) d q h (ij bc)=.b4 v (aE.bX e8) bf bj an (ij ((e,m,h0,vo)::rv)))/\cS cg=G/\mG P need ops yb e8 rK cg h0 vo rv aV/\(∃post,full=yb++post)/\(bT v e8 rK cg bf bj an kW ((e,m,h0,vo)::rv)).p
theorem ph.trans{ops:Array Oper}{cA:Nat}{full l b2:List DStep}{env og:List aE}{G:Env}{d d2:List bQ}{q a7:bD}{h ad:J}{bc Ka:mF}{K:rH}{bT:I->rH}(aq:∀r,Mod r G->gj P need inR call ops r cA l (aE.bX env) d q h (ij bc)=gj P need inR call ops r cA b2 (aE.bX og) d2 a7 ad (ij Ka))(he:ph P need inR call ops cA full b2 og G d2 a7 ad Ka K bT):ph P need inR call ops cA full l env G d q h bc K bT:=by
 rcases he with⟨cw,c2,dm,e4,eX,qo,qp,kY,yc,bA,cX,dP,iE⟩|⟨cw,c2,dm,e4,eX,qo,qp,kY,yc,bt,bH,ej,j6,pj,ny,bA,cX,dP,iE,pk⟩
 · exact .inl ⟨cw,c2,dm,e4,eX,qo,qp,kY,yc,λr hm=>(aq r hm).trans (bA r hm),cX,dP,iE⟩
 · exact .inr ⟨cw,c2,dm,e4,eX,qo,qp,kY,yc,bt,bH,ej,j6,pj,ny,λr hm=>(aq r hm).trans (bA r hm),cX,dP,iE,pk⟩
theorem tx{ops:Array Oper}{r:aY}{cA:Nat}{s:DStep}{rest:List DStep}{env:List I}{d:List bQ}{q:bD}{h:J}{bc:np}:gj P need inR call ops r cA (s::rest) env d q h bc=
  match kindOf P s.o.op with
  |.alloc=>match ep (gL P need ops r s.i env s) with
   |none=>.fail ("guard " ++s.o.pos)
   |some false=>gj P need inR call ops r cA rest (.aP []::env) d q h bc
   |some true=>match jX P s.o.op (λx=>dt s.i env r (cE P need s.loc x)) (cA+s.i) with
    |some (v,o)=>gj P need inR call ops r cA rest (v::env) d q (h.set (cA+s.i) (some o)) bc
    |none=>.fail ("alloc " ++s.o.pos)
  |.pure=>match dL P inR call (gL P need ops r s.i env s) s.o (λx=>dt s.i env r (cE P need s.loc x)) d q h with
   |.ok v _ _ _=>gj P need inR call ops r cA rest (v::env) d q h bc
   |.b4 _ _ _ _=>.fail ("pure " ++s.o.pos)
   |.fail w=>.fail w
  |.eb=>match s8 s bc with
   |false=>.fail ("order " ++s.o.pos)
   |true=>match dL P inR call (gL P need ops r s.i env s) s.o (λx=>dt s.i env r (cE P need s.loc x)) d q h with
    |.ok v bf bj an=>gj P need inR call ops r cA rest (v::env) bf bj an ((s.i,s.eT,h)::bc)
    |.b4 v bf bj an=>match rest.all (λbg=>Nat.testBit bg.eT s.i) with
     |true=>.b4 v env bf bj an ((s.i,s.eT,h)::bc)
     |false=>.fail ("panic " ++s.o.pos)
    |.fail w=>.fail w:=by
 cases bc<;>rfl
theorem tz{pl:kx}{ih:Nat}{ops:Array Oper}{cA:Nat}{full:List DStep}(pn:∀(k:Nat) (s:DStep),full[k]? =some s->s.i=k){K:rH}{bT:I->rH}:∀(l pre:List DStep) (env:List aE) (dD:List Nat) (Γ:c6) (d:List bQ) (q:bD) (h:J) (cx:Nat) (bc:mF) (H:Nat->J),full=pre++l->mG P need ops pre env dD Γ h cx bc H->(rI P need inR call pl ih ops cA l env dD Γ d q h cx bc K bT).p->ph P need inR call ops cA full l env (cS Γ) d q h bc K bT
 |[],pre,env,dD,Γ,d,q,h,cx,bc,H,hf,w,aa=>by
  rw[List.append_nil] at hf
  subst hf
  exact .inl ⟨env,dD,Γ,d,q,h,cx,bc,H,λ_ _=>rfl,rfl,w,aa⟩
 |s::rest,pre,env,dD,Γ,d,q,h,cx,bc,H,hf,w,aa=>by
  have af:s.i=env.length:=by
   rw[<-w.pl]
   exact pn pre.length s (by rw[hf];simp)
  have vp:full=(pre++[s])++rest:=by rw[hf];simp
  simp only[rI] at aa
  split at aa
  · cases aa
  · rename_i aq
    have tA:=J6 aq
    have al:∀r,Mod r (cS Γ)->∀x∈s.o.op.operands,dt s.i (aE.bX env) r (cE P need s.loc x)=(g3 s.i (aE.bX env) (cS Γ) (cE P need s.loc x)).getD .bad:=λr hm=>Ey hm tA
    have iA:∀r,Mod r (cS Γ)->∀gd,dL P inR call gd s.o (λx=>dt s.i (aE.bX env) r (cE P need s.loc x)) d q h=dL P inR call gd s.o (λx=>(g3 s.i (aE.bX env) (cS Γ) (cE P need s.loc x)).getD .bad) d q h:=λr hm gd=>s0 (al r hm)
    obtain⟨nx,hh,aA,ay,bx,hw⟩:=J7 aa
    have kq:∀z∈bc,z.2.2.2<=cx/\H z.2.2.2=z.2.2.1:=w.st
    rcases hw with⟨hw,pg⟩|⟨hw,pg⟩
    · have rL:∀r,Mod r (cS Γ)->ep (gL P need ops r s.i (aE.bX env) s)=some true:=λr hm=>by rw[ya];exact pg.ok hm
      split at hw
      · rename_i g1
        obtain⟨v,o,aS,di⟩:=SP hw
        have A5:jX P s.o.op (λx=>(g3 s.i (aE.bX env) (cS Γ) (cE P need s.loc x)).getD .bad) (cA+s.i)=some (v.den,o):=by
         rw[<-aS];congr 1;exact funext λx=>by rw[Ex,aA,ay]
        have cG:mG P need ops (pre++[s]) (v::nx) (cx::dD) hh (h.set (cA+s.i) (some o)) (cx+1) bc (qn H (cx+1) (h.set (cA+s.i) (some o))):=
         w.push af aA ay bx (λk aq=>by unfold qn;rw[if_neg (by omega)]) (by omega) (by unfold qn;rw[if_pos rfl]) (λz aZ=>by
          obtain⟨ei,gf⟩:=kq z aZ
          exact⟨by omega,by unfold qn;rw[if_neg (by omega)];exact gf⟩) (λaO=>by rw[g1] at aO;cases aO)
        have a6:=tz pn rest (pre++[s]) (v::nx) (cx::dD) hh d q _ (cx+1) bc _ vp cG di
        rw[ay] at a6
        refine ph.trans (λr hm=>?_) a6
        rw[tx,g1]
        simp only[rL r hm]
        rw[xD _ _ (al r hm),A5]
        simp only[aE.bX,aA]
      · rename_i g1
        obtain⟨og,Γ2,f1,f2,f3,a2⟩:=Ez hw
        rw[aA,ay] at a2
        rcases a2 with⟨x,d1,ba,ab,he,di⟩|⟨v,d1,ba,ab,he,di⟩
        · have fi:=SO g1 he
          have cG:mG P need ops (pre++[s]) (x::og) (cx::dD) Γ2 h cx bc H:=
           w.push af (f1.trans aA) (f2.trans ay) (f3.trans bx) (λk aq=>rfl) (Nat.le_refl _) w.cur kq (λ_=>⟨tA,.inr ⟨pg,fi⟩⟩)
          have a6:=tz pn rest (pre++[s]) (x::og) (cx::dD) Γ2 d q h cx bc H vp cG di
          rw[f2,ay] at a6
          refine ph.trans (λr hm=>?_) a6
          rw[tx,g1]
          simp only
          rw[iA r hm,u6 (rL r hm),he]
          simp only[aE.bX,f1,aA]
        · cases di
      · rename_i g1
        split at hw
        · cases hw
        · rename_i ld
          obtain⟨og,Γ2,f1,f2,f3,a2⟩:=Ez hw
          rw[aA,ay] at a2
          rcases a2 with⟨x,d1,ba,ab,he,di⟩|⟨v,d1,ba,ab,he,di⟩
          · have cG:mG P need ops (pre++[s]) (x::og) (cx::dD) Γ2 ab (cx+1) ((s.i,s.eT,h,cx)::bc) (qn H (cx+1) ab):=
              w.push af (f1.trans aA) (f2.trans ay) (f3.trans bx) (λk aq=>by unfold qn;rw[if_neg (by omega)]) (by omega) (by unfold qn;rw[if_pos rfl]) (λz aZ=>by
               rcases List.mem_cons.1 aZ with rfl|aZ
               · exact⟨by simp,by unfold qn;rw[if_neg (by simp)];exact w.cur⟩
               · obtain⟨ei,gf⟩:=kq z aZ
                 exact⟨by omega,by unfold qn;rw[if_neg (by omega)];exact gf⟩) (λaO=>by rw[g1] at aO;cases aO)
            have a6:=tz pn rest (pre++[s]) (x::og) (cx::dD) Γ2 d1 ba ab (cx+1) _ _ vp cG di
            rw[f2,ay] at a6
            refine ph.trans (λr hm=>?_) a6
            rw[tx,g1]
            simp only[ld]
            rw[iA r hm,u6 (rL r hm),he]
            simp only[aE.bX,f1,aA,ij]
          · split at di
            · rename_i eg
              refine .inr ⟨v,nx,dD,Γ2,d1,ba,ab,cx+1,s.i,s.eT,h,cx,bc,H,pre,λr hm=>?_,f2.trans ay,?_,⟨_,hf⟩,di⟩
              · rw[tx,g1]
                simp only[ld]
                rw[iA r hm,u6 (rL r hm),he]
                simp only[eg,ij,aA]
              · exact⟨w.cur,w.le,w.st,w.pl.trans bx.symm,by rw[f2,ay,aA,bx];exact w.seen⟩
            · cases di
    · have rL:∀r,Mod r (cS Γ)->ep (gL P need ops r s.i (aE.bX env) s)=some false:=λr hm=>by rw[ya];exact pg.ok hm
      cases g1:kindOf P s.o.op with
      |eb=>
       rw[g1] at hw
       simp only at hw
       split at hw
       · cases hw
       · rename_i ld
         have cG:mG P need ops (pre++[s]) (.v (.aP [])::nx) (cx::dD) hh h cx ((s.i,s.eT,h,cx)::bc) H:=
          w.push af aA ay bx (λk aq=>rfl) (Nat.le_refl _) w.cur (λz aZ=>by
           rcases List.mem_cons.1 aZ with rfl|aZ
           · exact⟨Nat.le_refl _,w.cur⟩
           · exact kq z aZ) (λaO=>by rw[g1] at aO;cases aO)
         have a6:=tz pn rest (pre++[s]) (.v (.aP [])::nx) (cx::dD) hh d q h cx _ H vp cG hw
         rw[ay] at a6
         refine ph.trans (λr hm=>?_) a6
         rw[tx,g1]
         simp only[ld]
         rw[xV (rL r hm)]
         simp only[aE.bX,aE.den,aA,ij]
      |alloc=>
       rw[g1] at hw
       simp only at hw
       have cG:mG P need ops (pre++[s]) (.v (.aP [])::nx) (cx::dD) hh h cx bc H:=
        w.push af aA ay bx (λk aq=>rfl) (Nat.le_refl _) w.cur kq (λaO=>by rw[g1] at aO;cases aO)
       have a6:=tz pn rest (pre++[s]) (.v (.aP [])::nx) (cx::dD) hh d q h cx bc H vp cG hw
       rw[ay] at a6
       refine ph.trans (λr hm=>?_) a6
       rw[tx,g1]
       simp only[rL r hm]
       simp only[aE.bX,aE.den,aA]
      |pure=>
       rw[g1] at hw
       simp only at hw
       have cG:mG P need ops (pre++[s]) (.v (.aP [])::nx) (cx::dD) hh h cx bc H:=
        w.push af aA ay bx (λk aq=>rfl) (Nat.le_refl _) w.cur kq (λ_=>⟨tA,.inl pg⟩)
       have a6:=tz pn rest (pre++[s]) (.v (.aP [])::nx) (cx::dD) hh d q h cx bc H vp cG hw
       rw[ay] at a6
       refine ph.trans (λr hm=>?_) a6
       rw[tx,g1]
       simp only
       rw[xV (rL r hm)]
       simp only[aE.bX,aE.den,aA]
end
end aM
namespace aM
open Go
section
variable {P:Program} {need:Nat} {inR:Bool} {call:aI->List I->J->av}
theorem SQ{o:Oper}{g:Operand->aE}(aw:A3 P o g=true){h ab:J}{v:I}(e:cB P o (λx=>(g x).den) h=.val v ab)(an:J):∃ad,cB P o (λx=>(g x).den) an=.val v ad:=by
 have gQ:∀{w:String} {x:Option I},fC h w x=.val v ab->∃ad,fC an w x=.val v ad:=λ{w x} e=>by
  cases x with
  |none=>cases e
  |some y=>cases e;exact⟨_,rfl⟩
 obtain⟨dst,op,type,pos,after,guard⟩:=o
 cases op<;>simp only[A3] at aw<;>(try (cases aw;done))<;>unfold cB at e⊢ <;>simp only at e⊢
 case binOp op t x y yt=>
  split at aw
  · rename_i k a ea b aa aW
    rw[aa,aW] at e⊢
    simp only[aE.den,eB] at e⊢
    exact gQ e
  · rename_i a b aa aW
    rw[aa,aW] at e⊢
    simp only[aE.den,eB] at e⊢
    exact gQ e
  · rw[Bool.and_eq_true] at aw
    rw[aE.pf aw.1,aE.pf aw.2] at e⊢
    have ai:eB P an op t x y (.bool (g x).ku) (.bool (g y).ku)=eB P h op t x y (.bool (g x).ku) (.bool (g y).ku):=by
     simp only[eB,fO]
    rw[ai];exact gQ e
 case call c=>
  split at aw
  · rename_i ag
    rw[ag] at e⊢
    simp only[hY] at e⊢
    split at aw
    · rename_i t a_
      rw[a_] at e⊢
      cases hx:c.args.toList.map λx=>(g x).den with
      |nil=>rw[hx] at e;cases e
      |cons x l=>
       rw[hx] at e
       cases l with
       |nil=>
        simp only at e⊢
        split at aw
        · rename_i el hu
          simp only[b9,hu] at e⊢
          cases x<;>simp only at e⊢ <;>exact gQ e
        · rename_i hu
          simp only[b9,hu] at e⊢
          cases x<;>simp only at e⊢ <;>exact gQ e
        · cases aw
       |cons y l=>
        cases l with
        |nil=>simp only at e;cases e
        |cons z l=>simp only at e;cases e
    · cases aw
  · cases aw
 case typeAssert=>repeat' (first|contradiction|exact gQ e|(cases e;done)|(cases e;exact⟨_,rfl⟩)|(cases e;simp_all;done)|split at e)
 all_goals repeat' (first|contradiction|exact gQ e|(cases e;exact⟨_,rfl⟩)|(rw[if_pos (by assumption)];first|exact gQ e|(cases e;exact⟨_,rfl⟩))|(cases e;done)|split at e)
theorem Kb{K:cO}:∀(l:List aE),(vk l K).p->jw (aE.bX l)=true/\K.p
 |[],h=>⟨rfl,h⟩
 |s::l,h=>by
  have key:s.den.sound=true/\(vk l K).p:=by
   cases s<;>simp only[vk] at h<;>first|exact h|(split at h<;>first|exact⟨by assumption,h⟩|cases h)
  obtain⟨bE,b0⟩:=Kb l key.2
  exact⟨by simp only[aE.bX,jw,key.1,bE,Bool.and_true],b0⟩
theorem Kc{s:aE}{K:cO}(h:(Ev s K).p):s.den.sound=true/\K.p:=by
 cases s<;>simp only[Ev] at h<;>first|exact⟨rfl,h⟩|exact h|skip
 all_goals first
  |exact Kb _ h
  |(split at h
    · rename_i hs;exact⟨hs,h⟩
    · cases h)
theorem yd{o:Oper}{g:Operand->I}{v:I}{rG:Bool}{K:cO}:∀(l:List (Option J)),(vm P o g v rG l K).p->K.p/\(rG=false->∀h,some h∈l->n_ P o g h v)
 |[],h=>⟨h,λ_ _ hm=>by cases hm⟩
 |none::l,h=>by
  obtain⟨ab,ad⟩:=yd l h
  exact⟨ab,λaK an hm=>by
   rcases List.mem_cons.1 hm with e|hm
   · cases e
   · exact ad aK an hm⟩
 |some x::l,h=>by
  simp only[vm] at h
  cases rG with
  |true=>
   obtain⟨ab,ad⟩:=yd l h
   exact⟨ab,λaK=>by cases aK⟩
  |false=>
   obtain⟨h0,h⟩:=h
   obtain⟨ab,ad⟩:=yd l h
   exact⟨ab,λaK an hm=>by
    rcases List.mem_cons.1 hm with e|hm
    · cases e;exact h0
    · exact ad aK an hm⟩
theorem Kd{ops:Array Oper}{r:aY}{n:Nat}{env:List I}{s:DStep}{v:I}{gR:Nat}{H:Nat->J}:∀(bc:mF) (dQ:Option Nat) (h:J) (cx:Nat),H cx=h->(∀z∈bc,H z.2.2.2=z.2.2.1)->(∀o∈vl s gR dQ h cx bc,lC P need ops r n env s v (match o with|none=>H gR|some h=>h)=true)->kJ P need ops r n env s v dQ h (ij bc)=true
 |[],dQ,h,cx,ai,hs,aw=>by
  simp only[ij]
  rw[AM]
  simp only[vl] at aw
  cases ae:qj s dQ [] with
  |true=>rfl
  |false=>
   rw[show qj s dQ (ij [])=false from ae] at aw
   simp only[Bool.and_true]
   cases aB:Nat.beq cx gR with
   |true=>
    have:=aw none (by rw[aB];simp)
    obtain rfl:=Nat.eq_of_beq_eq_true aB
    rw[<-ai];exact this
   |false=>exact aw (some h) (by rw[aB];simp)
 |(e,m,an,kW)::rest,dQ,h,cx,ai,hs,aw=>by
  simp only[ij]
  rw[AM]
  simp only[vl] at aw
  have a6:=Kd (ops:=ops) (r:=r) (n:=n) (env:=env) (v:=v) rest (some e) an kW (hs _ List.mem_cons_self) (λz aZ=>hs z (List.mem_cons_of_mem _ aZ)) λo a2=>aw o (List.mem_append.2 (.inr a2))
  simp only[]
  rw[a6,Bool.and_true]
  cases ae:qj s dQ ((e,m,an)::ij rest) with
  |true=>rfl
  |false=>
   rw[show qj s dQ (ij ((e,m,an,kW)::rest))=false from ae] at aw
   simp only
   cases aB:Nat.beq cx gR with
   |true=>
    have:=aw none (List.mem_append.2 (.inl (by rw[aB];simp)))
    obtain rfl:=Nat.eq_of_beq_eq_true aB
    rw[<-ai];exact this
   |false=>exact aw (some h) (List.mem_append.2 (.inl (by rw[aB];simp)))
theorem EE{ops:Array Oper}{r:aY}{n:Nat}{env:List aE}{dD:List Nat}{Γ:c6}(hm:Mod r (cS Γ)){last:Option Nat}{h:J}{cx:Nat}{bc:mF}{H:Nat->J}(cm:H cx=h)(ch:∀z∈bc,H z.2.2.2=z.2.2.1){K:cO}:∀(l:List DStep),(∀s∈l,s.i<n->vn P need ops s n (aE.bX env) (cS Γ) dD H)->(lj P need ops n env dD Γ last h cx bc l K).p->k9 P need ops r n (aE.bX env) last h (ij bc) l=true
 |[],_,_=>rfl
 |s::rest,hs,aa=>by
  simp only[k9]
  simp only[lj] at aa
  have zF:=λ(k:(lj P need ops n env dD Γ last h cx bc rest K).p)=>EE hm cm ch rest (λz aZ=>hs z (List.mem_cons_of_mem _ aZ)) k
  split at aa
  · rename_i ae g1
    have af:s.i<n:=by simpa using ae
    obtain⟨_,nz⟩:=hs s List.mem_cons_self af
    obtain⟨tA,mn⟩:=nz g1
    rw[ae,g1]
    simp only
    split at aa
    · rename_i v gR aB lW
      have Ke:nth (n-1-s.i) (aE.bX env)=some v.den:=JW _ _ _ aB
      rw[Ke]
      simp only[Option.getD_some]
      have fin:∀(aq:(lj P need ops n env dD Γ last h cx bc rest K).p),(∀o∈vl s gR last h cx bc,lC P need ops r n (aE.bX env) s v.den (match o with|none=>H gR|some h=>h)=true)->(kJ P need ops r n (aE.bX env) s v.den last h (ij bc)&&k9 P need ops r n (aE.bX env) last h (ij bc) rest)=true:=λaq a2=>by
       rw[zF aq,Bool.and_true]
       exact Kd bc last h cx cm ch a2
      split at aa
      · rename_i qc
        exact fin aa λo a2=>by rw[qc] at a2;cases a2
      · split at aa
        ·
         have EF:ep (gL P need ops r n (aE.bX env) s)=some false->∀an,lC P need ops r n (aE.bX env) s (aE.den (.v (.aP []))) an=true:=λhw an=>by
          unfold lC;rw[hw]
         split at aa
         · rename_i a b tu
           have ao:∀(x:aE),lT n env Γ a=some x->gL P need ops r n (aE.bX env) s=some (x.den,b):=λx aa=>by
            have jL:g3 n (aE.bX env) (cS Γ) a=some x.den:=by rw[<-vf,aa];rfl
            rw[ya,tu]
            simp only[Option.map_some,vg hm jL]
           split at aa
           · rename_i s4
             exact fin aa λo _=>EF (by rw[ao _ s4];rfl) _
           · rename_i s4
             cases b with
             |false=>exact fin aa λo _=>EF (by rw[ao _ s4];rfl) _
             |true=>cases aa
           · rename_i s4
             cases b with
             |true=>exact fin aa λo _=>EF (by rw[ao _ s4];rfl) _
             |false=>cases aa
           · cases aa
         · cases aa
        · rename_i cV
          obtain⟨eA,aa⟩:=Kc aa
          obtain⟨aa,SR⟩:=yd _ aa
          have gv:(λx=>(kV P need n env Γ s.loc x).den)=λx=>(g3 n (aE.bX env) (cS Γ) (cE P need s.loc x)).getD .bad:=funext λx=>Ex
          refine fin aa λo a2=>?_
          rcases mn v.den gR Ke lW with e|⟨df,e⟩
          · have hw:ep (gL P need ops r n (aE.bX env) s)=some false:=by rw[ya];exact e.ok hm
            unfold lC;rw[hw]
          · have hw:ep (gL P need ops r n (aE.bX env) s)=some true:=by rw[ya];exact df.ok hm
            have look:∀an,(∃lk,cB P s.o (λx=>(kV P need n env Γ s.loc x).den) an=.val v.den lk)->lC P need ops r n (aE.bX env) s v.den an=true:=λan ⟨lk,e⟩=>by
             have SS:cB P s.o (λx=>dt n (aE.bX env) r (cE P need s.loc x)) an=.val v.den lk:=by
              rw[<-e,gv]
              exact xC s.o an (Ey hm tA)
             unfold lC
             simp only[hw,SS]
             exact tb _ eA
            rw[<-gv] at e
            cases o with
            |none=>exact look _ e
            |some an=>
             refine look an ?_
             cases ai:A3 P s.o (kV P need n env Γ s.loc) with
             |true=>
              obtain⟨ab,e⟩:=e
              exact SQ ai e an
             |false=>exact⟨an,ta (SR ai an a2)⟩
    · cases aa
  · rename_i n7
    have aa:=zF aa
    rw[aa,Bool.and_true]
    cases ae:Nat.blt s.i n with
    |false=>rfl
    |true=>
     cases aq:kindOf P s.o.op with
     |pure=>exact absurd aq (n7 ae)
     |alloc=>rfl
     |eb=>rfl
theorem EG{ops:Array Oper}{n:Nat}{env:List aE}{dD:List Nat}{Γ:c6}{last:Option Nat}{h:J}{cx:Nat}{bc:mF}{K:cO}:∀(l:List DStep),(lj P need ops n env dD Γ last h cx bc l K).p->K.p
 |[],aa=>aa
 |s::rest,aa=>by
  have a6:(lj P need ops n env dD Γ last h cx bc rest K).p->K.p:=λk=>EG rest k
  simp only[lj] at aa
  split at aa
  · split at aa
    · split at aa
      · exact a6 aa
      · split at aa
        · split at aa
          · split at aa
            · exact a6 aa
            · split at aa
              · exact a6 aa
              · cases aa
            · split at aa
              · exact a6 aa
              · cases aa
            · cases aa
          · cases aa
        · exact a6 (yd _ (Kc aa).2).1
    · cases aa
  · exact a6 aa
def Kf(P:Program)(need:Nat)(inR:Bool)(call:aI->List I->J->av)(pl:kx)(ih:Nat)(ops:Array Oper)(Γ:c6)(d:List bQ)(q:bD)(h:J)(K:bn->c6->List bQ->bD->J->cO):cO:=
 rI P need inR call pl ih ops h.n (e1 ops.toList 0 [] []) [] [] Γ d q (h.room ops.size) 0 []
  (λenv dD Γ d q h cx bc=>lj P need ops env.length env dD Γ none h cx bc (e1 ops.toList 0 [] []) (nv (tw need env.length env Γ (iK ops.toList 0 []) Γ) λΓ=>K .nrm Γ d q h))
  (λv env dD Γ d q h cx bc=>match bc with
   |(e,m,h0,vo)::bc=>lj P need ops env.length env dD Γ (some e) h0 vo bc (e1 ops.toList 0 [] []) (nv (x9 (iK ops.toList 0 []) Γ) λΓ=>K (.b4 v) Γ d q h)
   |[]=>bad "a panic")
def EH(P:Program)(need:Nat)(rd:Option Nat)(call:aI->List I->J->av)(c:Code)(Γ:c6)(d:List bQ)(q:bD)(h:J)(K:bn->c6->List bQ->bD->J->cO):Prop:=∃e cg bf bj an,cZ P need rd call c ⟨cS Γ,d,q,h⟩ e ⟨cS cg,bf,bj,an⟩/\(K e cg bf bj an).p
theorem SU{rd:Option Nat}{pl:kx}{ih:Nat}{ops:Array Oper}{Γ:c6}{d:List bQ}{q:bD}{h:J}{K:bn->c6->List bQ->bD->J->cO}(aa:(Kf P need rd.isSome call pl ih ops Γ d q h K).p):EH P need rd call (.region ih ops true) Γ d q h K:=by
 have pn:∀(k:Nat) (s:DStep),(e1 ops.toList 0 [] [])[k]? =some s->s.i=k:=λk s hs=>by have:=J8 _ _ _ _ _ _ hs;omega
 have gO:mG P need ops [] [] [] Γ (h.room ops.size) 0 [] (λ_=>h.room ops.size):=⟨rfl,λ_ hm=>(by cases hm),λ_ hm=>(by cases hm),rfl,λ_ hm=>(by cases hm)⟩
 rcases tz pn (e1 ops.toList 0 [] []) [] [] [] Γ d q (h.room ops.size) 0 [] _ rfl gO aa with⟨e8,rK,cg,bf,bj,an,kW,rJ,aV,bA,cX,w,di⟩|⟨v,e8,rK,cg,bf,bj,an,kW,e,m,h0,vo,rv,aV,yb,bA,cX,w,⟨post,aO⟩,di⟩
 · refine⟨.nrm,_,bf,bj,an,λr hm=>?_,od (EG _ di)⟩
   have ab:=bA r hm
   have ad:=EE (r:=r) (by rw[cX];exact hm) w.cur (λz aZ=>(w.st z aZ).2) _ (λs hs _=>w.seen s hs) di
   refine⟨_,?_,EC (by rw[cX];exact hm) _ _ _ (by rw[cX];exact hm)⟩
   have g0:gj P need rd.isSome call ops r h.n (e1 ops.toList 0 [] []) [] d q ⟨h.t,h.n+ops.size⟩ []=.ok (aE.bX e8) bf bj an (ij rJ):=ab
   simp only[du,ss,g0,A4,ad,md]
 · refine⟨.b4 v,_,bf,bj,an,λr hm=>?_,od (EG _ di)⟩
   have ab:=bA r hm
   have SV:∀s∈e1 ops.toList 0 [] [],s.i<e8.length->vn P need ops s e8.length (aE.bX e8) (cS cg) rK aV:=λs hs af=>by
    refine w.seen s ?_
    obtain⟨k,aq,o8⟩:=List.getElem_of_mem hs
    have acz:s.i=k:=pn k s (by rw[List.getElem?_eq_getElem aq,o8])
    have Kg:k<yb.length:=by rw[w.pl];omega
    have:(yb++post)[k]? =some s:=by rw[<-aO,List.getElem?_eq_getElem aq,o8]
    rw[List.getElem?_append_left Kg] at this
    exact List.mem_of_getElem? this
   have ad:=EE (r:=r) (by rw[cX];exact hm) w.cur (λz aZ=>(w.st z aZ).2) _ SV di
   refine⟨_,?_,ED _ _ _ (by rw[cX];exact hm)⟩
   have g0:gj P need rd.isSome call ops r h.n (e1 ops.toList 0 [] []) [] d q ⟨h.t,h.n+ops.size⟩ []=.b4 v (aE.bX e8) bf bj an ((e,m,h0)::ij rv):=ab
   simp only[du,ss,g0,A4,ad,md]
end
end aM
namespace aM
open Go
abbrev tB:=bn->c6->List bQ->bD->J->cO
def A6(P:Program):List (Nat×j5)->(c6->cO)->cO
 |[],K=>K []
 |(t,s)::l,K=>shape P 9 s λx=>A6 P l λΓ=>K ((t,x)::Γ)
def EI(P:Program)(d:List bQ)(q:bD)(K:tB)(cd:bn)(ct:ah):List (bn×List (Nat×j5))->cO
 |[]=>bad "loop"
 |[(e,rs)]=>A6 P rs λgx=>gD λg:J=>gD λcg:Env=>gh (cd=e) (gh (ct=⟨cg,d,q,g⟩) (gh (cl (cS gx) cg) (K e gx d q g)))
 |(e,rs)::l=>.mk ((A6 P rs λgx=>gD λg:J=>gD λcg:Env=>gh (cd=e) (gh (ct=⟨cg,d,q,g⟩) (gh (cl (cS gx) cg) (K e gx d q g)))).p\/(EI P d q K cd ct l).p)
def SW:Operand->Nat
 |.tmp t=>t
 |_=>999
def A7(P:Program)(call:aI->List I->J->av)(fn:Func)(pl:kx)(fV:Nat)(path:List Nat)(Γ:c6)(d:List bQ)(q:bD)(h:J)(K:tB):cO:=match tl (4000+fV) pl with
 |some (.g2 ins outs)=>.mk (a4 P fn call path ⟨my (cS Γ) ins,d,q,h⟩ λcd ct=>(EI P d q K cd ct outs).p)
 |_=>bad "loop"
def mH(P:Program)(call:aI->List I->J->av)(fn:Func)(need:Nat)(pl:kx):Code->Nat->List Nat->c6->List bQ->bD->J->tB->cO
 |.skip,_,_,Γ,d,q,h,K=>K .nrm Γ d q h
 |.label _,_,_,Γ,d,q,h,K=>K .nrm Γ d q h
 |.exit id,_,_,Γ,d,q,h,K=>K (.exit id) Γ d q h
 |.ret,_,_,Γ,d,q,h,K=>K .ret Γ d q h
 |.scope b,fV,p,Γ,d,q,h,K=>mH P call fn need pl b fV (p++[0]) Γ d q h K
 |.region id ops draw,_,_,Γ,d,q,h,K=>match draw with
  |false=>x8 P need false call pl id (oP P need ops).steps [] Γ d q h
   (λenv Γ d q h=>nv (tw need env.length env Γ (oP P need ops).loc Γ) λΓ=>K .nrm Γ d q h)
   (λv Γ d q h=>nv (x9 (oP P need ops).loc Γ) λΓ=>K (.b4 v) Γ d q h)
  |true=>Kf P need false call pl id ops Γ d q h K
 |.seq a b,fV,p,Γ,d,q,h,K=>mH P call fn need pl a fV (p++[0]) Γ d q h λe Γ d q h=>match e with
  |.nrm=>mH P call fn need pl b fV (p++[1]) Γ d q h K
  |e=>K e Γ d q h
 |.cond c a b,fV,p,Γ,d,q,h,K=>match lT 0 [] Γ (cE P need [] c) with
  |none=>bad "if"
  |some s=>s.hO (AX (tl (1000+SW c) pl)) (nv (tk (cE P need [] c) .iT Γ) λΓ=>mH P call fn need pl a fV (p++[0]) Γ d q h K) (nv (tk (cE P need [] c) .jO Γ) λΓ=>mH P call fn need pl b fV (p++[1]) Γ d q h K)
 |.block id b,_,p,Γ,d,q,h,K=>mH P call fn need pl b id (p++[0]) Γ d q h λe Γ d q h=>match e with
  |.exit i=>match Nat.beq i id with
   |true=>K .nrm Γ d q h
   |false=>K (.exit i) Γ d q h
  |e=>K e Γ d q h
 |.loop _,fV,p,Γ,d,q,h,K=>A7 P call fn pl fV p Γ d q h K
 |.rangeFunc _ _ _ _,fV,p,Γ,d,q,h,K=>A7 P call fn pl (500+fV) p Γ d q h K
 |_,_,_,_,_,_,_,_=>bad "code"
section
variable {P:Program} {call:aI->List I->J->av} {fn:Func}
theorem EJ:∀(l:List (Nat×j5)) {K:c6->cO},(A6 P l K).p->∃Γ,(K Γ).p
 |[],K,h=>⟨[],h⟩
 |(t,s)::l,K,h=>by
  obtain⟨x,h⟩:=ts h
  obtain⟨Γ,h⟩:=EJ l h
  exact⟨_,h⟩
theorem Kh{d:List bQ}{q:bD}{K:tB}{cd:bn}{ct:ah}:∀(l:List (bn×List (Nat×j5))),(EI P d q K cd ct l).p->∃gx cg g,ct=⟨cg,d,q,g⟩/\cl (cS gx) cg/\(K cd gx d q g).p
 |[],h=>by cases h
 |[(e,rs)],h=>by
  obtain⟨gx,g,cg,rfl,ad,ar,aJ⟩:=EJ _ h
  exact⟨gx,cg,g,ad,ar,aJ⟩
 |(e,rs)::y::l,h=>by
  rcases h with h|h
  · obtain⟨gx,g,cg,rfl,ad,ar,aJ⟩:=EJ _ h
    exact⟨gx,cg,g,ad,ar,aJ⟩
  · exact Kh (y::l) h
theorem A8(Γ:Env):∀l:List Nat,cl (my Γ l) Γ
 |[]=>trivial
 |t::l=>by
  simp only[my]
  cases h:er t Γ with
  |none=>exact A8 Γ l
  |some v=>exact⟨h,A8 Γ l⟩
theorem Ki{pl:kx}{fV:Nat}{p:List Nat}{Γ:c6}{d:List bQ}{q:bD}{h:J}{K:tB}(aa:(A7 P call fn pl fV p Γ d q h K).p):EH P (dG fn) none call (sub (e3 fn) p) Γ d q h K:=by
 unfold A7 at aa
 split at aa
 · obtain⟨e,st,ak,aT⟩:=aa
   obtain⟨gx,cg,g,rfl,ar,aJ⟩:=Kh _ aT
   have ab:cZ P (dG fn) none call (sub (e3 fn) p) ⟨cS Γ,d,q,h⟩ e ⟨cg,d,q,g⟩:=cZ.pre (st1:=⟨cS Γ,d,q,h⟩) ak (A8 _ _) rfl rfl rfl
   exact⟨e,gx,d,q,g,cZ.post ab ar,aJ⟩
 · cases aa
theorem rM{pl:kx}:∀(c:Code) (fV:Nat) (p:List Nat) (Γ:c6) (d:List bQ) (q:bD) (h:J) (K:tB),sub (e3 fn) p=c->(mH P call fn (dG fn) pl c fV p Γ d q h K).p->EH P (dG fn) none call c Γ d q h K
 |.skip,fV,p,Γ,d,q,h,K,ag,aa=>⟨.nrm,Γ,d,q,h,λr ak=>⟨r,rfl,ak⟩,aa⟩
 |.label _,fV,p,Γ,d,q,h,K,ag,aa=>⟨.nrm,Γ,d,q,h,λr ak=>⟨r,rfl,ak⟩,aa⟩
 |.exit id,fV,p,Γ,d,q,h,K,ag,aa=>⟨.exit id,Γ,d,q,h,λr ak=>⟨r,rfl,ak⟩,aa⟩
 |.ret,fV,p,Γ,d,q,h,K,ag,aa=>⟨.ret,Γ,d,q,h,λr ak=>⟨r,rfl,ak⟩,aa⟩
 |.scope b,fV,p,Γ,d,q,h,K,ag,aa=>rM b fV (p++[0]) Γ d q h K (by rw[jh,ag];simp[sub]) aa
 |.region id ops draw,fV,p,Γ,d,q,h,K,ag,aa=>by
  simp only[mH] at aa
  cases draw with
  |true=>exact SU aa
  |false=>
   rcases EB _ _ _ _ _ _ aa with⟨e8,cg,bf,bj,an,bA,cX,di⟩|⟨v,cg,bf,bj,an,bA,cX,di⟩
   · refine⟨.nrm,_,bf,bj,an,λr ak=>⟨_,?_,EC (by rw[cX];exact ak) _ _ _ (by rw[cX];exact ak)⟩,od di⟩
     have ab:h_ P (dG fn) false call r (oP P (dG fn) ops).steps [] d q h=.ok (aE.bX e8) bf bj an:=bA r ak
     simp only[du,Option.isSome_none,ab,md,A4]
   · refine⟨.b4 v,_,bf,bj,an,λr ak=>⟨_,?_,ED _ _ _ (by rw[cX];exact ak)⟩,od di⟩
     have ab:h_ P (dG fn) false call r (oP P (dG fn) ops).steps [] d q h=.b4 v bf bj an:=bA r ak
     simp only[du,Option.isSome_none,ab,md]
 |.seq a b,fV,p,Γ,d,q,h,K,ag,aa=>by
  obtain⟨e,hh,d1,ba,ab,r1,bE⟩:=rM a fV (p++[0]) Γ d q h _ (by rw[jh,ag];simp[sub]) aa
  by_cases he:e=.nrm
  · subst he
    obtain⟨ay,Γ2,d2,a7,ad,r2,b0⟩:=rM b fV (p++[1]) hh d1 ba ab K (by rw[jh,ag];simp[sub]) bE
    refine⟨ay,Γ2,d2,a7,ad,λr ak=>?_,b0⟩
    obtain⟨mI,hb,mJ⟩:=r1 r ak
    obtain⟨SX,nA,SY⟩:=r2 mI mJ
    exact⟨SX,by simp only at hb nA;simp only[du,hb,pO,nA],SY⟩
  · refine⟨e,hh,d1,ba,ab,λr ak=>?_,by cases e<;>first|exact absurd rfl he|exact bE⟩
    obtain⟨mI,hb,mJ⟩:=r1 r ak
    exact⟨mI,by simp only[du,hb];exact sR he,mJ⟩
 |.cond c a b,fV,p,Γ,d,q,h,K,ag,aa=>by
  simp only[mH] at aa
  split at aa
  · cases aa
  · rename_i s hs
    have jL:g3 0 [] (cS Γ) (cE P (dG fn) [] c)=some s.den:=by rw[show([]:List I)=aE.bX [] from rfl,<-vf,hs];rfl
    obtain⟨ae,aW⟩:=A0 _ aa
    have ao:=aE.pf ae
    rcases aW with⟨a_,aq⟩|⟨a_,aq⟩
    · rw[a_] at ao
      obtain⟨_,ay,_⟩:=vh (x:=.iT) hs ao
      obtain⟨e,hh,d1,ba,ab,r1,bE⟩:=rM a fV (p++[0]) _ d q h K (by rw[jh,ag];simp[sub]) (od aq)
      refine⟨e,hh,d1,ba,ab,λr ak=>?_,bE⟩
      obtain⟨mI,hb,mJ⟩:=r1 r (by rw[ay];exact ak)
      exact⟨mI,by simp only at hb;simp only[du,vg ak jL,ao,hb],mJ⟩
    · rw[a_] at ao
      obtain⟨_,ay,_⟩:=vh (x:=.jO) hs ao
      obtain⟨e,hh,d1,ba,ab,r1,bE⟩:=rM b fV (p++[1]) _ d q h K (by rw[jh,ag];simp[sub]) (od aq)
      refine⟨e,hh,d1,ba,ab,λr ak=>?_,bE⟩
      obtain⟨mI,hb,mJ⟩:=r1 r (by rw[ay];exact ak)
      exact⟨mI,by simp only at hb;simp only[du,vg ak jL,ao,hb],mJ⟩
 |.block id b,fV,p,Γ,d,q,h,K,ag,aa=>by
  obtain⟨e,hh,d1,ba,ab,r1,bE⟩:=rM b id (p++[0]) Γ d q h _ (by rw[jh,ag];simp[sub]) aa
  cases e with
  |exit i=>
   simp only at bE
   cases af:Nat.beq i id with
   |true=>
    rw[af] at bE
    obtain rfl:=Nat.eq_of_beq_eq_true af
    exact⟨.nrm,hh,d1,ba,ab,λr ak=>by
     obtain⟨mI,hb,mJ⟩:=r1 r ak
     exact⟨mI,by simp only at hb;simp only[du,hb,if_true],mJ⟩,bE⟩
   |false=>
    rw[af] at bE
    have cV:¬i=id:=by intro cH;subst cH;simp at af
    exact⟨.exit i,hh,d1,ba,ab,λr ak=>by
     obtain⟨mI,hb,mJ⟩:=r1 r ak
     exact⟨mI,by simp only at hb;simp only[du,hb,if_neg cV],mJ⟩,bE⟩
  |_=>
   exact⟨_,hh,d1,ba,ab,λr ak=>by
    obtain⟨mI,hb,mJ⟩:=r1 r ak
    exact⟨mI,by simp only at hb;simp only[du,hb],mJ⟩,bE⟩
 |.loop b,fV,p,Γ,d,q,h,K,ag,aa=>by
  have:=Ki aa;rw[ag] at this;exact this
 |.rangeFunc f ps as cf,fV,p,Γ,d,q,h,K,ag,aa=>by
  have:=Ki aa;rw[ag] at this;exact this
 |.goto _,fV,p,Γ,d,q,h,K,ag,aa=>by simp only[mH] at aa;cases aa
 |.refuse _,fV,p,Γ,d,q,h,K,ag,aa=>by simp only[mH] at aa;cases aa
def Kj(P:Program)(fn:Func)(call:aI->List I->J->av)(pl:kx)(ck:List Nat)(path:List Nat)(Γ:c6)(d:List bQ)(q:bD)(h:J)(Q:bn->ah->Prop):Prop:=
 (mH P call fn (dG fn) pl (sub (e3 fn) path) 0 path Γ d q h λe Γ d q h=>.mk (Q e ⟨my (cS Γ) ck,d,q,h⟩)).p
theorem dI(pl:kx)(ck:List Nat)(Γ:c6){cg:Env}{path:List Nat}{d:List bQ}{q:bD}{h:J}{Q:bn->ah->Prop}(cP:cS Γ=cg)(H:Kj P fn call pl ck path Γ d q h Q):a4 P fn call path ⟨cg,d,q,h⟩ Q:=by
 subst cP
 obtain⟨e,hh,d1,ba,ab,r1,bE⟩:=rM _ 0 path Γ d q h _ rfl H
 exact⟨e,_,cZ.post r1 (A8 _ ck),bE⟩
def Kk(P:Program)(fn:Func)(R:av->Prop):tB:=λe Γ d q h=>match d with
 |[]=>match e with
  |.b4 v=>.mk (R (.b4 v h))
  |.ret|.nrm=>match rC P (dG fn) fn (cS Γ) h with
   |some v=>.mk (R (.ret v h))
   |none=>bad "results"
  |_=>bad "end"
 |_=>bad "deferred"
def Kl(P:Program)(fn:Func)(call:aI->List I->J->av)(pl:kx)(Γ:c6)(h:J)(R:av->Prop):Prop:=
 (mH P call fn (dG fn) pl (e3 fn) 0 [] Γ [] .none h (Kk P fn R)).p
theorem dJ{intr:Nat->List I->J->Option (I×J)}{f n:Nat}{args:List I}{h:J}{R:av->Prop}(pl:kx)(Γ:c6)(hf:P.funcs[f]? =some fn)(ae:fn.body.isSome=true)(af:intr f args h=none)(hle:Nat.ble args.length fn.ntmps=true)(cP:cS Γ=nq 0 args)(H:Kl P fn (e6 P intr n) pl Γ h R):R (e6 P intr (n+1) (.fn f) args h):=by
 refine Eh hf ae af hle (Q:=λe s=>s.d=[]/\((∃v,e=.b4 v/\R (.b4 v s.h))\/((e=.ret\/e=.nrm)/\∃v,rC P (dG fn) fn s.Γ s.h=some v/\R (.ret v s.h)))) ?_ λe s aT=>?_
 · have hs:sub (e3 fn) []=e3 fn:=by cases e3 fn<;>rfl
   obtain⟨e,hh,d1,ba,ab,r1,bE⟩:=rM (e3 fn) 0 [] Γ [] .none h _ hs H
   rw[cP] at r1
   refine⟨e,⟨cS hh,d1,ba,ab⟩,by unfold aH;rw[hs];exact r1,?_⟩
   unfold Kk at bE
   split at bE
   · refine⟨rfl,?_⟩
     split at bE
     · exact .inl ⟨_,rfl,bE⟩
     · split at bE
       · rename_i v aB;exact .inr ⟨.inl rfl,v,aB,bE⟩
       · cases bE
     · split at bE
       · rename_i v aB;exact .inr ⟨.inr rfl,v,aB,bE⟩
       · cases bE
     · cases bE
   · cases bE
 · obtain⟨ao,aT⟩:=aT
   rcases aT with⟨v,rfl,ak⟩|⟨he,v,aB,ak⟩
   · exact .inr ⟨v,rfl,ao,ak⟩
   · exact .inl ⟨he,ao,v,aB,ak⟩
end
attribute [irreducible] Kj Kl
end aM
