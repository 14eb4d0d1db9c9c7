/-
  PROVED HERE: contracts of functions (Tx). No condition beside each statement's own.
-/
import Derived.Test.YtfooahfebojldaaGreatDoorSxb
set_option linter.unusedVariables false
set_option linter.unusedSimpArgs false
namespace aw
open Go
inductive Stop(hI:String):Prop
inductive ct where
 |mk (p:Prop)
def ct.p:ct->Prop
 |.mk p=>p
abbrev bad(w:String):ct:=.mk (Stop w)
abbrev fk(p:Prop)(k:ct):ct:=.mk (p/\k.p)
abbrev dE{α:Type}(f:α->ct):ct:=.mk (∃x:α,(f x).p)
abbrev wu(c c':Prop)(a b:ct):ct:=.mk ((c->a.p)/\(c'->b.p))
inductive aA where
 |v (a:I)
 |o (a:I)
 |iz|iA
 |lt (i n:Nat)|le (i n:Nat)|eq (i n:Nat)
 |b4 (s:aA)
 |ee (l:List aA)
 |kb (l:List aA)
def aA.js:aA->Bool
 |.iz=>true
 |.iA=>false
 |.lt i n=>et (.ofNat i) (.ofNat n)
 |.le i n=>fh (.ofNat i) (.ofNat n)
 |.eq i n=>cU (.ofNat i) (.ofNat n)
 |.b4 s=>!s.js
 |.v (.bool b)=>b
 |_=>false
def aA.sf:aA->Bool
 |.iz|.iA|.lt _ _|.le _ _|.eq _ _|.b4 _=>true
 |.v (.bool _)=>true
 |_=>false
mutual
def aA.den:aA->I
 |.v a=>a
 |.o a=>a
 |.iz=>.bool true
 |.iA=>.bool false
 |.lt i n=>.bool (et (.ofNat i) (.ofNat n))
 |.le i n=>.bool (fh (.ofNat i) (.ofNat n))
 |.eq i n=>.bool (cU (.ofNat i) (.ofNat n))
 |.b4 s=>.bool (!s.js)
 |.ee l=>.agg (aA.bB l)
 |.kb l=>.aK (aA.bB l)
def aA.bB:List aA->List I
 |[]=>[]
 |s::l=>s.den::aA.bB l
end
def kd:I->aA
 |.bool true=>.iz
 |.bool false=>.iA
 |v=>.v v
abbrev cM:=List (Nat×aA)
def cA:cM->Env
 |[]=>[]
 |(t,s)::l=>(t,s.den)::cA l
def sg(t:Nat):cM->Option aA
 |[]=>none
 |(u,s)::l=>match Nat.beq t u with
  |true=>some s
  |false=>sg t l
def sh:Nat->List aA->Option aA
 |_,[]=>none
 |0,s::_=>some s
 |n+1,_::l=>sh n l
def si:Nat->aA->List aA->List aA
 |_,_,[]=>[]
 |0,x,_::l=>x::l
 |n+1,x,s::l=>s::si n x l
def za(t:Nat)(x:aA):cM->cM
 |[]=>[]
 |(u,s)::l=>match Nat.beq t u with
  |true=>(u,x)::l
  |false=>(u,s)::za t x l
def kP(m:Nat)(env:List aA)(Γ:cM):Acc->Option aA
 |.env j=>match Nat.blt j m with
  |true=>sh (m-1-j) env
  |false=>none
 |.jS p=>sg p.num Γ
 |.val v=>some (kd v)
def tV(m:Nat)(a:Acc)(b:aA)(env:List aA):List aA:=match a with
 |.env j=>si (m-1-j) b env
 |_=>env
def sj(a:Acc)(b:aA)(Γ:cM):cM:=match a with
 |.jS p=>za p.num b Γ
 |_=>Γ
def aA.kQ(s:aA)(K:aA->ct):ct:=match s with
 |.v a=>K (.v a)
 |.o a=>K (.o a)
 |.iz=>K .iz
 |.iA=>K .iA
 |.lt i n=>K (.lt i n)
 |.le i n=>K (.le i n)
 |.eq i n=>K (.eq i n)
 |.b4 s=>K (.b4 s)
 |.ee l=>K (.ee l)
 |.kb l=>K (.kb l)
def qx:List aA->(List aA->ct)->ct
 |[],K=>K []
 |s::l,K=>s.kQ λs=>qx l λl=>K (s::l)
def md:cM->(cM->ct)->ct
 |[],K=>K []
 |(t,s)::l,K=>s.kQ λs=>md l λl=>K ((t,s)::l)
inductive iU where
 |ty (t:TypeId)
 |is (v:I)|io (v:I)
 |z (k:IntKind)
 |n (k:IntKind)
 |o
 |p|HA
 |st|b
 |hz|wv (c:cf)
 |kb (l:List iU)|ee (l:List iU)
 |HB (t:TypeId) (s:iU)
 |fn (f:Nat) (k:Nat)
inductive n2 where
 |b1 (s:iU)
 |t|f
 |p (s:iU)
 |e (r:Option iU) (s:iU)
 |gw (ins:List Nat) (outs:List (bu×List (Nat×iU)))
def Cr:List aA->List aA
 |[]=>[]
 |.ee l::r=>l++Cr r
 |s::r=>s::Cr r
abbrev jt:=List (Nat×n2)
def sk(k:Nat):jt->Option n2
 |[]=>none
 |(j,o)::l=>match Nat.beq k j with
  |true=>some o
  |false=>sk k l
mutual
def shape(P:Program):Nat->iU->(aA->ct)->ct
 |0,_,_=>bad "shape"
 |n+1,s,K=>match s with
  |.is v=>K (kd v)
  |.io v=>K (.o v)
  |.z k=>dE λx:Int=>K (.o (.int k x))
  |.n k=>dE λx:Nat=>K (.v (.int k (.ofNat x)))
  |.o=>dE λx:I=>K (.o x)
  |.p=>dE λx:Nat=>K (.v (.ptr x 0))
  |.HA=>dE λx:Nat=>dE λy:Nat=>K (.v (.ptr x y))
  |.st=>dE λx:List UInt8=>K (.v (.str x))
  |.b=>dE λx:Bool=>K (.v (.bool x))
  |.hz=>dE λx:Nat=>dE λy:Nat=>dE λz:Nat=>dE λc:cf=>K (.v (.slice x y z c))
  |.wv c=>dE λx:Nat=>dE λz:Nat=>K (.v (.slice x 0 z c))
  |.kb l=>qy P n l λr=>K (.kb r)
  |.ee l=>qy P n l λr=>K (.ee r)
  |.HB t s=>shape P n s λx=>K (.v (.iface t x.den))
  |.fn f k=>dE λx:List I=>K (.v (.fn f [] x))
  |.ty t=>match P.underlying t with
   |some .bool=>dE λx:Bool=>K (.v (.bool x))
   |some (.int k)=>dE λx:Nat=>K (.v (.int k (.ofNat x)))
   |some .string=>dE λx:List UInt8=>K (.v (.str x))
   |some (.pointer _)=>dE λx:Nat=>K (.v (.ptr x 0))
   |some (.struct b2)=>qy P n (b2.toList.map λf=>.ty f.type) λr=>K (.ee (Cr r))
   |some (.tuple ts)=>qy P n (ts.toList.map .ty) λr=>K (.kb r)
   |some .invalid=>K (.v (.aK []))
   |some _=>dE λx:I=>K (.o x)
   |none=>K (.v (.aK []))
def qy(P:Program):Nat->List iU->(List aA->ct)->ct
 |0,_,_=>bad "shapes"
 |n+1,l,K=>match l with
  |[]=>K []
  |s::l=>shape P n s λx=>qy P n l λr=>K (x::r)
end
def aA.dz(dQ:Option Bool)(A B:ct):aA->ct
 |.iz=>A
 |.iA=>B
 |.lt i n=>match dQ with
  |none=>wu (i<n) (¬i<n) A B
  |some true=>fk (i<n) A
  |some false=>fk (¬i<n) B
 |.le i n=>match dQ with
  |none=>wu (i<=n) (¬i<=n) A B
  |some true=>fk (i<=n) A
  |some false=>fk (¬i<=n) B
 |.eq i n=>match dQ with
  |none=>wu (i=n) (¬i=n) A B
  |some true=>fk (i=n) A
  |some false=>fk (¬i=n) B
 |.b4 s=>s.dz (match dQ with|none=>none|some b=>some (!b)) B A
 |.v (.bool x)=>match dQ with
  |none=>wu (x=true) (x=false) A B
  |some true=>fk (x=true) A
  |some false=>fk (x=false) B
 |_=>bad "choice"
def zb(o:Option n2):Option Bool:=match o with
 |some .t=>some true
 |some .f=>some false
 |_=>none
def Cs(o:Option n2)(t:TypeId):iU:=match o with
 |some (.b1 s)=>s
 |_=>.ty t
def Ct(op:BinOp)(x y:aA):Option aA:=match x,y with
 |.v (.int k (.ofNat a)),.v (.int dH (.ofNat b))=>match decide (k=dH) with
  |true=>match op with
   |.lss=>some (.lt a b)
   |.leq=>some (.le a b)
   |.gtr=>some (.lt b a)
   |.geq=>some (.le b a)
   |.eql=>some (.eq a b)
   |.neq=>some (.b4 (.eq a b))
   |_=>none
  |false=>none
 |_,_=>none
def Cu(op:BinOp)(x y:aA):Option (Prop×I):=match x,y with
 |.v (.int k (.ofNat a)),.v (.int dH (.ofNat b))=>match decide (k=dH),op,k with
  |true,.add,.i64=>some (a+b<9223372036854775808,.int .i64 (.ofNat (a+b)))
  |true,.sub,.i64=>some (b<=a/\a<9223372036854775808,.int .i64 (.ofNat (a-b)))
  |true,.mul,.i64=>some (a*b<9223372036854775808,.int .i64 (.ofNat (a*b)))
  |true,.add,.u64=>some (a+b<18446744073709551616,.int .u64 (.ofNat (a+b)))
  |true,.sub,.u64=>some (b<=a/\a<18446744073709551616,.int .u64 (.ofNat (a-b)))
  |_,_,_=>none
 |.v (.str a),.v (.str b)=>match op with
  |.add=>some (a.length+b.length<=1000000000000,.str (a++b))
  |_=>none
 |_,_=>none
def sl:aA->List I
 |.o a=>[a]
 |s=>s.den.cells
def sm:List aA->ct->ct
 |[],K=>K
 |.o a::l,K=>fk (a.bC=true) (sm l K)
 |_::l,K=>sm l K
def sn:List aA->Bool
 |[]=>true
 |.o _::l=>sn l
 |s::l=>s.den.bC&&sn l
def tW(s:aA)(K:ct):ct:=match s with
 |.o a=>fk (a.bC=true) K
 |.ee l=>match sn l with
  |true=>sm l K
  |false=>bad "cells"
 |s=>match s.den.cells.all I.bC with
  |true=>K
  |false=>bad "cells"
def lu:aA->List aA
 |.ee l=>l
 |.v (.agg cs)=>cs.map kd
 |s=>[s]
def aA.Cv:aA->Bool
 |.o _=>true
 |_=>false
def so(place:Nat->Option (Nat×Nat)):List aA->List (Nat×aA)->Option (List aA)
 |cells,[]=>some cells
 |cells,(i,s)::rest=>match place i with
  |none=>none
  |some (off,size)=>match Nat.beq (lu s).length size&&Nat.ble (off+size) cells.length with
   |true=>so place (cells.take off++lu s++(cells.drop off).drop (lu s).length) rest
   |false=>none
def me:List (Nat×aA)->List aA
 |[]=>[]
 |(_,s)::l=>lu s++me l
def zc(P:Program)(t:TypeId)(len:Nat)(ps:List (Nat×aA))(K:TypeId->List aA->ct):ct:=match P.underlying t with
 |some (.slice e)=>match cV P e,dN P e with
  |some sz,some z=>match Nat.ble (len*sz) 16777216&&Nat.beq z.cells.length sz,(if len*sz=0 then[] else ej len z.cells).all I.bC,so (λi=>some (i*sz,sz)) ((if len*sz=0 then[] else ej len z.cells).map kd) ps,sn (me ps) with
   |true,true,some cs,true=>sm (me ps) (qx cs λcs=>K e cs)
   |_,_,_,_=>bad "buildSlice"
  |_,_=>bad "buildSlice"
 |_=>bad "buildSlice"
def fe(a b:Bool):Bool:=a==b
def Cw(P:Program)(op:BinOp)(t:TypeId)(x y:aA):Option aA:=match x.sf&&y.sf,P.underlying t,op with
 |true,some .bool,.eql=>some (.v (.bool (fe x.js y.js)))
 |true,some .bool,.neq=>some (.b4 (.v (.bool (fe x.js y.js))))
 |_,_,_=>none
def PB(x y:aA):Bool:=match x,y with
 |.v (.ptr _ _),.v .bd|.v .bd,.v .bd|.v (.slice _ _ _ _),.v .a0|.v .a0,.v .a0|.v (.iface _ _),.v .dW|.v .dW,.v .dW=>true
 |_,_=>false
section
variable (P:Program) (inR:Bool) (call:aP->List I->J->av)
abbrev n3:=aA->List bA->bt->J->ct
abbrev n4:=I->List bA->bt->J->ct
def zd(dQ:Option n2)(t:TypeId)(f:aP)(args:List I)(d:List bA)(q:bt)(h:J)(K:n3)(di:n4):ct:=match dQ with
 |some (.p s)=>shape P 9 s λx=>dE λg:J=>fk (call f args h=.bK x.den g) (di x.den d q g)
 |some (.e r s)=>.mk ((shape P 9 (match r with|some r=>r|none=>.ty t) λx=>dE λg:J=>fk (call f args h=.ret x.den g) (K x d q g)).p\/(shape P 9 s λx=>dE λg:J=>fk (call f args h=.bK x.den g) (di x.den d q g)).p)
 |dQ=>shape P 9 (Cs dQ t) λx=>dE λg:J=>fk (call f args h=.ret x.den g) (K x d q g)
def o9(dQ:Option n2)(o:Oper)(g:Operand->aA)(d:List bA)(q:bt)(h:J)(K:n3)(di:n4):ct:=
 match BX o (λx=>(g x).den) with
 |0=>match ch P o (λx=>(g x).den) h with
  |.val v ak=>match dQ with
   |some (.b1 .o)=>K (.o v) d q ak
   |_=>K (.v v) d q ak
  |.bK v ak=>di v d q ak
  |.call f args ak=>zd P call dQ o.type (.fn f) args d q ak K di
  |.bQ l args ak=>zd P call dQ o.type (.bQ l) args d q ak K di
  |.iI x=>match inR with
   |true=>bad "defer"
   |false=>K (.v (.aK [])) (x::d) q h
  |.q8=>match inR with
   |true=>bad "recover"
   |false=>match q with
    |.none=>K (.v .dW) d .none h
    |.done v=>K (.v .dW) d (.done v) h
    |.act v=>K (.v v) d (.done v) h
  |.fail w=>bad w
 |1=>shape P 9 (Cs dQ o.type) λx=>fk (mY P o (λy=>(g y).den) h x.den) (K x d q h)
 |_=>shape P 9 (Cs dQ o.type) λx=>dE λak:J=>fk (tL P o (λy=>(g y).den) h x.den ak) (K x d q ak)
def Cx(dQ:Option n2)(o:Oper)(g:Operand->aA)(d:List bA)(q:bt)(h:J)(K:n3)(di:n4):ct:=match o.op with
 |.move x|.assign x=>(g x).kQ λs=>K s d q h
 |.unOp .not _ x=>match(g x).sf with
  |true=>(g x).kQ λs=>K (.b4 s) d q h
  |false=>bad "not"
 |.binOp op t x y _=>(g x).kQ λu=>(g y).kQ λw=>match(match Ct op u w with|some s=>some s|none=>Cw P op t u w) with
  |some s=>K s d q h
  |none=>match PB u w with
   |true=>match dX P h op t x y u.den w.den with
    |some v=>(kd v).kQ λs=>K s d q h
    |none=>bad "nil"
   |false=>match(match dQ with|none=>Cu op u w|some _=>none) with
    |some (p,v)=>fk p (K (.v v) d q h)
    |none=>o9 P inR call dQ o g d q h K di
 |.extract x i=>match g x with
  |.kb l=>match sh i l with
   |some s=>s.kQ λs=>K s d q h
   |none=>bad "extract"
  |_=>o9 P inR call dQ o g d q h K di
 |.indexAddr t x i=>match P.underlying t,g x,e2 (g i).den with
  |some (.array m e),.v (.ptr b off),some n=>match cV P e with
   |some sz=>fk (n<m) (K (.v (.ptr b (off+n*sz))) d q h)
   |none=>bad "indexAddr"
  |some (.slice e),.v (.slice b off m c),some n=>match cV P e with
   |some sz=>fk (n<m) (K (.v (.ptr b (off+n*sz))) d q h)
   |none=>bad "indexAddr"
  |_,_,_=>bad "indexAddr of what"
 |.store t a x=>match(g a).den,cV P t with
  |.ptr b off,some n=>match Nat.beq (sl (g x)).length n with
   |true=>(g x).kQ λs=>tW s (dE λf_:J=>fk (storeCells h b off (sl s)=some f_) (K (.v (.aK [])) d q f_))
   |false=>bad "store size"
  |_,_=>bad "store"
 |.build t parts=>match(me (parts.toList.map λp=>(p.1,g p.2))).any aA.Cv with
  |false=>o9 P inR call dQ o g d q h K di
  |true=>match dN P t,P.underlying t with
   |some z,some (.struct b2)=>match b2.toList.all (λf=>(cV P f.type).isSome),so (λi=>(b2[i]?).map λf=>(f.offset,P.cellsOf f.type)) (z.cells.map kd) (parts.toList.map λp=>(p.1,g p.2)),sn (me (parts.toList.map λp=>(p.1,g p.2))) with
    |true,some cs,true=>sm (me (parts.toList.map λp=>(p.1,g p.2))) (qx cs λcs=>K (.ee cs) d q h)
    |_,_,_=>bad "build"
   |_,_=>bad "build of what"
 |.buildSlice t len parts=>match(me (parts.toList.map λp=>(p.1,g p.2))).any aA.Cv with
  |false=>o9 P inR call dQ o g d q h K di
  |true=>zc P t len (parts.toList.map λp=>(p.1,g p.2)) λe cs=>K (.v (.slice h.n 0 len (.exact len))) d q (h.push (.cells (aA.bB cs) e .own 0 0))
 |.box e x=>(g x).kQ λs=>tW s (K (.v (.ptr h.n 0)) d q (h.push (.cells (sl s) e .own 0 0)))
 |.call c=>match c.callee with
  |.builtin .len=>match c.args.toList.map g,c.argTypes[0]? with
   |[.o a],some t=>dE λn:Nat=>fk (cb P h t a=some (.int .i64 (.ofNat n))) (K (.v (.int .i64 (.ofNat n))) d q h)
   |_,_=>o9 P inR call dQ o g d q h K di
  |_=>o9 P inR call dQ o g d q h K di
 |_=>o9 P inR call dQ o g d q h K di
end
end aw
namespace aw
open Go
theorem aA.n5{s:aA}(h:s.sf=true):s.den=.bool s.js:=by
 cases s with
 |v a=>cases a<;>first|rfl|cases h
 |o a=>cases h
 |ee l=>cases h
 |kb l=>cases h
 |iz=>rfl
 |iA=>rfl
 |lt i n=>rfl
 |le i n=>rfl
 |eq i n=>rfl
 |b4 s=>rfl
theorem wx(a:I):(kd a).den=a:=by
 unfold kd;split<;>rfl
theorem Cy:∀(n:Nat) (l:List aA),(sh n l).map aA.den=nth n (aA.bB l)
 |0,[]=>rfl
 |_+1,[]=>rfl
 |0,x::l=>rfl
 |n+1,x::l=>Cy n l
theorem HC(n:Nat)(l:List aA)(s:aA)(h:sh n l=some s):nth n (aA.bB l)=some s.den:=by
 rw[<-Cy,h];rfl
theorem HD(t:Nat):∀Γ:cM,(sg t Γ).map aA.den=eX t (cA Γ)
 |[]=>rfl
 |(u,x)::l=>by
  simp only[sg,cA,eX]
  cases af:Nat.beq t u with
  |true=>rfl
  |false=>exact HD t l
def gf(m:Nat)(l:List I)(G:Env):Acc->Option I
 |.env j=>match Nat.blt j m with
  |true=>nth (m-1-j) l
  |false=>none
 |.jS p=>eX p.num G
 |.val v=>some v
theorem tX(m:Nat)(env:List aA)(Γ:cM)(a:Acc):(kP m env Γ a).map aA.den=gf m (aA.bB env) (cA Γ) a:=by
 cases a with
 |env j=>
  simp only[kP,gf]
  cases Nat.blt j m with
  |true=>exact Cy _ _
  |false=>rfl
 |jS p=>exact HD _ _
 |val v=>simp only[kP,gf,Option.map_some,wx]
theorem tY{m:Nat}{l:List I}{G:Env}{r:aL}(hm:Mod r G){a:Acc}{v:I}(h:gf m l G a=some v):dk m l r a=v:=by
 cases a with
 |env j=>
  simp only[gf] at h
  split at h
  · simp only[dk,h,Option.getD_some]
  · cases h
 |jS p=>simp only[gf] at h;simp only[dk];rw[<-G7 p];exact hm _ _ h
 |val x=>cases h;rfl
theorem wy{m:Nat}{l:List I}{G:Env}{a:Acc}{v:I}(x:I)(h:gf m l G a=some v):gf (m+1) (x::l) G a=some v:=by
 cases a with
 |env j=>
  simp only[gf] at h⊢
  split at h
  · rename_i af
    have aD:j<m:=by simpa using af
    have dw:Nat.blt j (m+1)=true:=by simp;omega
    rw[dw]
    have:m+1-1-j=(m-1-j)+1:=by omega
    rw[this];exact h
  · cases h
 |jS p=>exact h
 |val x=>exact h
theorem HE(x:aA):∀(n:Nat) (l:List aA),(∀s,sh n l=some s->s.den=x.den)->aA.bB (si n x l)=aA.bB l
 |0,[],_=>rfl
 |_+1,[],_=>rfl
 |0,s::l,h=>by simp only[si,aA.bB,h s rfl]
 |n+1,s::l,h=>by simp only[si,aA.bB];rw[HE x n l h]
theorem HF(x:aA):∀(n:Nat) (l:List aA),(si n x l).length=l.length
 |0,[]=>rfl
 |_+1,[]=>rfl
 |0,s::l=>rfl
 |n+1,s::l=>by simp only[si,List.length_cons,HF x n l]
theorem HG(t:Nat)(x:aA):∀Γ:cM,(∀s,sg t Γ=some s->s.den=x.den)->cA (za t x Γ)=cA Γ
 |[],_=>rfl
 |(u,s)::l,h=>by
  simp only[za]
  simp only[sg] at h
  cases af:Nat.beq t u with
  |true=>rw[af] at h;simp only[cA,h s rfl]
  |false=>rw[af] at h;simp only[cA];rw[HG t x l h]
theorem tZ{m:Nat}{env:List aA}{Γ:cM}{a:Acc}{s x:aA}(h:kP m env Γ a=some s)(e:s.den=x.den):aA.bB (tV m a x env)=aA.bB env/\cA (sj a x Γ)=cA Γ/\(tV m a x env).length=env.length:=by
 cases a with
 |env j=>
  simp only[kP] at h
  split at h
  · exact⟨HE x _ _ λbo hs=>by rw[h] at hs;cases hs;exact e,rfl,HF _ _ _⟩
  · cases h
 |jS p=>exact⟨rfl,HG _ _ _ λbo hs=>by rw[show sg p.num Γ=some s from h] at hs;cases hs;exact e,rfl⟩
 |val v=>exact⟨rfl,rfl,rfl⟩
theorem aA.kR{s:aA}{K:aA->ct}(h:(s.kQ K).p):(K s).p:=by cases s<;>exact h
theorem sq:∀{l:List aA} {K:List aA->ct},(qx l K).p->(K l).p
 |[],_,h=>h
 |s::l,K,h=>sq (l:=l) (aA.kR h)
theorem m2:∀{l:cM} {K:cM->ct},(md l K).p->(K l).p
 |[],_,h=>h
 |(t,s)::l,K,h=>m2 (l:=l) (aA.kR h)
theorem HH{P:Program}:∀(n:Nat),(∀(s:iU) (K:aA->ct),(shape P n s K).p->∃x,(K x).p)/\(∀(l:List iU) (K:List aA->ct),(qy P n l K).p->∃x,(K x).p)
 |0=>⟨λs K h=>(by simp only[shape] at h;cases h),λl K h=>(by simp only[qy] at h;cases h)⟩
 |n+1=>by
  obtain⟨aa,ad⟩:=HH (P:=P) n
  refine⟨λs K h=>?_,λl K h=>?_⟩
  · simp only[shape] at h
    cases s with
    |is v=>exact⟨_,h⟩
    |io v=>exact⟨_,h⟩
    |z k=>obtain⟨x,h⟩:=h;exact⟨_,h⟩
    |n k=>obtain⟨x,h⟩:=h;exact⟨_,h⟩
    |o=>obtain⟨x,h⟩:=h;exact⟨_,h⟩
    |p=>obtain⟨x,h⟩:=h;exact⟨_,h⟩
    |HA=>obtain⟨x,y,h⟩:=h;exact⟨_,h⟩
    |st=>obtain⟨x,h⟩:=h;exact⟨_,h⟩
    |b=>obtain⟨x,h⟩:=h;exact⟨_,h⟩
    |hz=>obtain⟨x,y,z,c,h⟩:=h;exact⟨_,h⟩
    |wv c=>obtain⟨x,z,h⟩:=h;exact⟨_,h⟩
    |kb l=>obtain⟨r,h⟩:=ad _ _ h;exact⟨_,h⟩
    |ee l=>obtain⟨r,h⟩:=ad _ _ h;exact⟨_,h⟩
    |HB t s=>obtain⟨r,h⟩:=aa _ _ h;exact⟨_,h⟩
    |fn f k=>obtain⟨x,h⟩:=h;exact⟨_,h⟩
    |ty t=>
     simp only at h
     split at h
     · obtain⟨x,h⟩:=h;exact⟨_,h⟩
     · obtain⟨x,h⟩:=h;exact⟨_,h⟩
     · obtain⟨x,h⟩:=h;exact⟨_,h⟩
     · obtain⟨x,h⟩:=h;exact⟨_,h⟩
     · obtain⟨r,h⟩:=ad _ _ h;exact⟨_,h⟩
     · obtain⟨r,h⟩:=ad _ _ h;exact⟨_,h⟩
     · exact⟨_,h⟩
     · obtain⟨x,h⟩:=h;exact⟨_,h⟩
     · exact⟨_,h⟩
  · simp only[qy] at h
    cases l with
    |nil=>exact⟨_,h⟩
    |cons s l=>
     obtain⟨x,h⟩:=aa _ _ h
     obtain⟨r,h⟩:=ad _ _ h
     exact⟨_,h⟩
theorem sr{P:Program}{n:Nat}{s:iU}{K:aA->ct}(h:(shape P n s K).p):∃x,(K x).p:=(HH n).1 s K h
theorem Cz{p:Prop}{A B:ct}{dQ:Option Bool}(h:(match dQ with
  |none=>wu p (¬p) A B
  |some true=>fk p A
  |some false=>fk (¬p) B).p):(p/\A.p)\/(¬p/\B.p):=by
 cases dQ with
 |none=>by_cases a6:p
        · exact .inl ⟨a6,h.1 a6⟩
        · exact .inr ⟨a6,h.2 a6⟩
 |some b=>cases b with
  |true=>exact .inl h
  |false=>exact .inr h
theorem ze:∀(s:aA) {dQ:Option Bool} {A B:ct},(s.dz dQ A B).p->s.sf=true/\((s.js=true/\A.p)\/(s.js=false/\B.p))
 |.iz,_,_,_,h=>⟨rfl,.inl ⟨rfl,h⟩⟩
 |.iA,_,_,_,h=>⟨rfl,.inr ⟨rfl,h⟩⟩
 |.lt i n,dQ,A,B,h=>by
  refine⟨rfl,?_⟩
  rcases Cz (p:=i<n) h with⟨aa,ad⟩|⟨aa,ad⟩
  · exact .inl ⟨kM aa,ad⟩
  · exact .inr ⟨o4 aa,ad⟩
 |.le i n,dQ,A,B,h=>by
  refine⟨rfl,?_⟩
  rcases Cz (p:=i<=n) h with⟨aa,ad⟩|⟨aa,ad⟩
  · exact .inl ⟨o6 aa,ad⟩
  · exact .inr ⟨y6 aa,ad⟩
 |.eq i n,dQ,A,B,h=>by
  refine⟨rfl,?_⟩
  rcases Cz (p:=i=n) h with⟨aa,ad⟩|⟨aa,ad⟩
  · exact .inl ⟨Cn aa,ad⟩
  · exact .inr ⟨y8 aa,ad⟩
 |.b4 s,dQ,A,B,h=>by
  refine⟨rfl,?_⟩
  simp only[aA.dz] at h
  obtain⟨_,ad⟩:=ze s h
  simp only[aA.js]
  rcases ad with⟨e,k⟩|⟨e,k⟩
  · right;exact⟨by rw[e];rfl,k⟩
  · left;exact⟨by rw[e];rfl,k⟩
 |.v a,dQ,A,B,h=>by
  cases a<;>simp only[aA.dz] at h<;>first|(cases h;done)|skip
  rename_i x
  refine⟨rfl,?_⟩
  simp only[aA.js]
  cases x with
  |true=>left;refine⟨rfl,?_⟩;cases dQ with
   |none=>exact h.1 rfl
   |some b=>cases b with
    |true=>exact h.2
    |false=>cases h.1
  |false=>right;refine⟨rfl,?_⟩;cases dQ with
   |none=>exact h.2 rfl
   |some b=>cases b with
    |true=>cases h.1
    |false=>exact h.2
 |.o a,_,_,_,h=>by simp only[aA.dz] at h;cases h
 |.ee l,_,_,_,h=>by simp only[aA.dz] at h;cases h
 |.kb l,_,_,_,h=>by simp only[aA.dz] at h;cases h
section
variable {P:Program} {inR:Bool} {call:aP->List I->J->av}
def gT(x:u4)(K:n3)(di:n4):Prop:=(∃s d q h,x=.ok (aA.den s) d q h/\(K s d q h).p)\/∃v d q h,x=.bK v d q h/\(di v d q h).p
theorem gT.val{o:Oper}{g:Operand->I}{d:List bA}{q:bt}{h ak:J}{K:n3}{di:n4}{s:aA}(e:ch P o g h=.val s.den ak)(k:(K s d q ak).p):gT (dm P inR call none o g d q h) K di:=
 .inl ⟨s,d,q,ak,by simp only[dm,dO,e],k⟩
theorem wz{K:ct}:∀(l:List aA),sn l=true->(sm l K).p->(aA.bB l).all I.bC=true/\K.p
 |[],_,h=>⟨rfl,h⟩
 |x::l,aq,h=>by
  cases x with
  |o a=>
   obtain⟨aa,ad⟩:=h
   obtain⟨bG,bF⟩:=wz l aq ad
   exact⟨by simp only[aA.bB,List.all_cons,aA.den,aa,bG,Bool.and_self],bF⟩
  |_=>
   simp only[sn,Bool.and_eq_true] at aq
   simp only[sm] at h
   obtain⟨bG,bF⟩:=wz l aq.2 h
   exact⟨by simp only[aA.bB,List.all_cons,aq.1,bG,Bool.and_self],bF⟩
theorem CA{s:aA}{K:ct}(h:(tW s K).p):s.den.cells=sl s/\(sl s).all I.bC=true/\K.p:=by
 cases s with
 |o a=>
  obtain⟨aa,ad⟩:=h
  refine⟨?_,by simp[sl,aa],ad⟩
  show a.cells=[a]
  cases a<;>first|rfl|cases aa
 |ee l=>
  simp only[tW] at h
  split at h
  · rename_i aq;exact⟨rfl,wz l aq h⟩
  · cases h
 |_=>
  simp only[tW] at h
  split at h
  · rename_i aq;exact⟨rfl,aq,h⟩
  · cases h
theorem ke:∀l:List aA,aA.bB l=l.map aA.den
 |[]=>rfl
 |s::l=>by simp only[aA.bB,List.map_cons,ke l]
theorem PC{s:aA}(h:(aA.bB (lu s)).all I.bC=true):s.den.cells=aA.bB (lu s)/\s.den≠ .bad:=by
 have one:∀a:I,a.bC=true->a.cells=[a]/\a≠ .bad:=λa aX=>by cases a<;>first|(cases aX;done)|exact⟨rfl,λh=>by cases h⟩
 have key:lu s=[s]->s.den.cells=aA.bB (lu s)/\s.den≠ .bad:=λe=>by
  rw[e] at h⊢
  simp only[aA.bB,List.all_cons,List.all_nil,Bool.and_true] at h⊢
  exact one _ h
 cases s with
 |ee l=>exact⟨rfl,nofun⟩
 |v a=>
  cases a with
  |agg cs=>
   refine⟨?_,nofun⟩
   show cs=aA.bB (cs.map kd)
   rw[ke,List.map_map]
   have:aA.den∘kd=id:=funext wx
   rw[this,List.map_id]
  |_=>exact key rfl
 |_=>exact key rfl
theorem PD{place:Nat->Option (Nat×Nat)}{cells:List I}{i:Nat}{v:I}{rest:List (Nat×I)}{off size:Nat}(aB:v≠ .bad)(a6:place i=some (off,size))(af:(Nat.beq v.cells.length size&&Nat.ble (off+size) cells.length)=true){cs:List I}(ag:eB off v.cells cells=some cs):iq place cells ((i,v)::rest)=iq place cs rest:=by
 cases v<;>first|exact absurd rfl aB|simp only[iq,a6,af,ag]
theorem CB{place:Nat->Option (Nat×Nat)}:∀(ps:List (Nat×aA)) (cells cs:List aA),so place cells ps=some cs->(aA.bB (me ps)).all I.bC=true->iq place (aA.bB cells) (ps.map λp=>(p.1,p.2.den))=some (aA.bB cs)
 |[],cells,cs,h,_=>by cases h;rfl
 |(i,s)::rest,cells,cs,h,aX=>by
  simp only[me,ke,List.map_append,List.all_append,Bool.and_eq_true] at aX
  rw[<-ke,<-ke] at aX
  obtain⟨bG,bF⟩:=PC aX.1
  simp only[so] at h
  split at h
  · cases h
  · rename_i off size a6
    split at h
    · rename_i af
      have an:(aA.bB (lu s)).length=(lu s).length:=by rw[ke,List.length_map]
      have ag:(aA.bB cells).length=cells.length:=by rw[ke,List.length_map]
      have dw:=af
      simp only[Bool.and_eq_true,Nat.ble_eq] at dw
      have br:=Nat.eq_of_beq_eq_true dw.1
      have vi:eB off s.den.cells (aA.bB cells)=some (aA.bB (cells.take off++lu s++(cells.drop off).drop (lu s).length)):=by
       have:=wk ((aA.bB cells).take off) (aA.bB (lu s)) ((aA.bB cells).drop off) aX.1 (by simp;omega)
       rw[List.length_take,Nat.min_eq_left (by omega),List.take_append_drop] at this
       rw[bG,this,an]
       simp only[ke,List.map_append,List.map_take,List.map_drop,List.append_assoc]
      rw[List.map_cons,PD bF a6 (by rw[bG,an,ag];exact af) vi]
      exact CB rest _ cs h aX.2
    · cases h
theorem HI{place:Nat->Option (Nat×Nat)}:∀(ps:List (Nat×aA)) (cells cs:List aA),so place cells ps=some cs->(aA.bB cells).all I.bC=true->(aA.bB (me ps)).all I.bC=true->(aA.bB cs).all I.bC=true
 |[],cells,cs,h,ag,_=>by cases h;exact ag
 |(i,s)::rest,cells,cs,h,ag,aX=>by
  simp only[me,ke,List.map_append,List.all_append,Bool.and_eq_true] at aX
  rw[<-ke,<-ke] at aX
  simp only[so] at h
  split at h
  · cases h
  · split at h
    · refine HI rest _ cs h ?_ aX.2
      rw[ke] at ag⊢
      rw[List.all_eq_true] at ag⊢
      have aa:=aX.1
      rw[ke,List.all_eq_true] at aa
      intro x ab
      rw[List.map_append,List.map_append,List.mem_append,List.mem_append] at ab
      rcases ab with(ab|ab)|ab
      · rw[List.map_take] at ab;exact ag x (List.mem_of_mem_take ab)
      · exact aa x ab
      · rw[List.map_drop,List.map_drop] at ab;exact ag x (List.mem_of_mem_drop (List.mem_of_mem_drop ab))
    · cases h
theorem HJ{t:TypeId}{len:Nat}{ps:List (Nat×aA)}{K:TypeId->List aA->ct}(h:(zc P t len ps K).p):∃e sz z cs,P.underlying t=some (.slice e)/\cV P e=some sz/\dN P e=some z/\(Nat.ble (len*sz) 16777216&&Nat.beq z.cells.length sz)=true/\iq (λi=>some (i*sz,sz)) (if len*sz=0 then[] else ej len z.cells) (ps.map λp=>(p.1,p.2.den))=some (aA.bB cs)/\(aA.bB cs).all I.bC=true/\(K e cs).p:=by
 unfold zc at h
 split at h
 · rename_i e hu
   split at h
   · rename_i sz z hs aT
     split at h
     · rename_i cs aa ad ar aM
       obtain⟨cY,k⟩:=wz _ aM h
       have dt:aA.bB ((if len*sz=0 then[] else ej len z.cells).map kd)=(if len*sz=0 then[] else ej len z.cells):=by rw[ke,List.map_map,show aA.den∘kd=id from funext wx,List.map_id]
       have hf:=CB _ _ _ ar cY
       have ag:=HI _ _ _ ar (by rw[dt];exact ad) cY
       rw[dt] at hf
       exact⟨e,sz,z,cs,hu,hs,aT,aa,hf,ag,sq k⟩
     · cases h
   · cases h
 · cases h
theorem HK{g:Operand->aA}(parts:Array (Nat×Operand)):(parts.toList.map λp=>(p.1,g p.2)).map (λp=>(p.1,p.2.den))=parts.toList.map λp=>(p.1,(g p.2).den):=by
 rw[List.map_map];rfl
theorem HL{dQ:Option n2}{t:TypeId}{f:aP}{args:List I}{d:List bA}{q:bt}{h:J}{K:n3}{di:n4}(ab:(zd P call dQ t f args d q h K di).p):gT (u5 d q (call f args h)) K di:=by
 unfold zd at ab
 split at ab
 · obtain⟨x,g,e,k⟩:=sr ab
   rw[e];exact .inr ⟨_,_,_,_,rfl,k⟩
 · rcases ab with ab|ab
   · obtain⟨x,g,e,k⟩:=sr ab
     rw[e];exact .inl ⟨_,_,_,_,rfl,k⟩
   · obtain⟨x,g,e,k⟩:=sr ab
     rw[e];exact .inr ⟨_,_,_,_,rfl,k⟩
 · obtain⟨x,g,e,k⟩:=sr ab
   rw[e];exact .inl ⟨_,_,_,_,rfl,k⟩
theorem ss{dQ:Option n2}{o:Oper}{g:Operand->aA}{d:List bA}{q:bt}{h:J}{K:n3}{di:n4}(ab:(o9 P inR call dQ o g d q h K di).p):gT (dm P inR call none o (λx=>(g x).den) d q h) K di:=by
 unfold o9 at ab
 split at ab
 · split at ab
   · rename_i v ak he
     split at ab
     · exact gT.val (s:=.o v) he ab
     · exact gT.val (s:=.v v) he ab
   · rename_i v ak he
     exact .inr ⟨v,d,q,ak,by simp only[dm,dO,he],ab⟩
   · rename_i f args ak he
     have:=HL ab
     simpa only[dm,dO,he] using this
   · rename_i l args ak he
     have:=HL ab
     simpa only[dm,dO,he] using this
   · rename_i x he
     split at ab
     · cases ab
     · exact .inl ⟨.v (.aK []),_,_,_,by simp only[dm,dO,he];rfl,ab⟩
   · rename_i he
     split at ab
     · cases ab
     · split at ab
       · exact .inl ⟨.v .dW,_,_,_,by simp only[dm,dO,he];rfl,ab⟩
       · exact .inl ⟨.v .dW,_,_,_,by simp only[dm,dO,he];rfl,ab⟩
       · rename_i v
         exact .inl ⟨.v v,_,_,_,by simp only[dm,dO,he];rfl,ab⟩
   · cases ab
 · obtain⟨x,c,k⟩:=sr ab
   exact gT.val (r9 c) k
 · obtain⟨x,ak,c,k⟩:=sr ab
   exact gT.val (B7 c) k
theorem PE{op:BinOp}{x y s:aA}(ab:Ct op x y=some s)(h:J)(t:TypeId)(a b:Operand):dX P h op t a b x.den y.den=some s.den:=by
 unfold Ct at ab
 split at ab
 · rename_i k cQ dH j0
   split at ab
   · rename_i aq
     obtain rfl:k=dH:=of_decide_eq_true aq
     split at ab<;>first|(cases ab;done)|(cases ab;simp only[aA.den,dX,arith,if_true,aA.js])
   · cases ab
 · cases ab
theorem PF{op:BinOp}{x y s:aA}{t:TypeId}(ab:Cw P op t x y=some s)(h:J)(a b:Operand):dX P h op t a b x.den y.den=some s.den:=by
 unfold Cw at ab
 split at ab
 · rename_i af hu
   rw[Bool.and_eq_true] at af
   cases ab
   rw[aA.n5 af.1,aA.n5 af.2]
   simp only[dX,pL,if_true,g1,hu,aA.den,fe]
 · rename_i af hu
   rw[Bool.and_eq_true] at af
   cases ab
   rw[aA.n5 af.1,aA.n5 af.2]
   simp only[dX,pL,if_true,g1,hu,aA.den,aA.js,fe]
 · cases ab
theorem PG{op:BinOp}{x y:aA}{p:Prop}{v:I}(ab:Cu op x y=some (p,v))(a6:p)(h:J)(t:TypeId)(a b:Operand):dX P h op t a b x.den y.den=some v:=by
 unfold Cu at ab
 split at ab
 · rename_i k cQ dH j0
   split at ab
   · rename_i aq;cases ab;obtain rfl:=of_decide_eq_true aq
     simp only[aA.den,dX,if_true];exact wm a6
   · rename_i aq;cases ab;obtain rfl:=of_decide_eq_true aq
     simp only[aA.den,dX,if_true];exact tS a6.1 a6.2
   · rename_i aq;cases ab;obtain rfl:=of_decide_eq_true aq
     simp only[aA.den,dX,if_true];exact Cl a6
   · rename_i aq;cases ab;obtain rfl:=of_decide_eq_true aq
     simp only[aA.den,dX,if_true];exact Pm a6
   · rename_i aq;cases ab;obtain rfl:=of_decide_eq_true aq
     simp only[aA.den,dX,if_true];exact Hr a6.1 a6.2
   · cases ab
 · split at ab
   · cases ab
     simp only[aA.den,dX];exact y2 a6
   · cases ab
 · cases ab
theorem PH{dQ:Option n2}{o:Oper}{g:Operand->aA}{d:List bA}{q:bt}{h:J}{K:n3}{di:n4}(ab:(Cx P inR call dQ o g d q h K di).p):gT (dm P inR call none o (λx=>(g x).den) d q h) K di:=by
 unfold Cx at ab
 split at ab
 · rename_i x a2
   exact gT.val (s:=g x) (by simp only[ch,a2]) (aA.kR ab)
 · rename_i x a2
   exact gT.val (s:=g x) (by simp only[ch,a2]) (aA.kR ab)
 · rename_i t x a2
   split at ab
   · rename_i af
     exact gT.val (s:=.b4 (g x)) (by simp only[ch,a2,aA.n5 af];rfl) (aA.kR ab)
   · cases ab
 · rename_i op t x y yt a2
   replace ab:=aA.kR (aA.kR ab)
   have key:∀{s:aA},dX P h op t x y (g x).den (g y).den=some s.den->(K s d q h).p->gT (dm P inR call none o (λx=>(g x).den) d q h) K di:=λ{s} e k=>gT.val (s:=s) (by simp only[ch,a2,e,e3]) k
   split at ab
   · rename_i s hs
     split at hs
     · rename_i bo c8;cases hs;exact key (PE c8 h t x y) ab
     · exact key (PF hs h x y) ab
   · split at ab
     · split at ab
       · rename_i v aB;exact key (s:=kd v) (by rw[wx];exact aB) (aA.kR ab)
       · cases ab
     · split at ab
       · rename_i p v a6
         cases dQ with
         |none=>exact key (s:=.v v) (PG a6 ab.1 h t x y) ab.2
         |some _=>cases a6
       · exact ss ab
 · rename_i x i a2
   split at ab
   · rename_i l an
     split at ab
     · rename_i s hs
       exact gT.val (s:=s) (by simp only[ch,a2,an,aA.den,HC _ _ _ hs,e3]) (aA.kR ab)
     · cases ab
   · exact ss ab
 · rename_i t x i a2
   split at ab
   · rename_i m e b off n hu qu ae
     split at ab
     · rename_i sz aT
       exact gT.val (s:=.v (.ptr b (off+n*sz))) (by simp only[ch,a2,hu,qu,aA.den,ae,aT,if_pos ab.1]) ab.2
     · cases ab
   · rename_i e b off m c n hu qu ae
     split at ab
     · rename_i sz aT
       exact gT.val (s:=.v (.ptr b (off+n*sz))) (by simp only[ch,a2,hu,qu,aA.den,ae,aT,if_pos ab.1]) ab.2
     · cases ab
   · cases ab
 · rename_i t a x a2
   split at ab
   · rename_i b off n CC aT
     split at ab
     · rename_i an
       obtain⟨aC,ax,f_,bp,k⟩:=CA (aA.kR ab)
       have ag:tL P o (λy=>(g y).den) h (.aK []) f_:=by
        unfold tL
        rw[a2]
        simp only[CC]
        rw[aC]
        exact⟨by rw[aT,Nat.eq_of_beq_eq_true an],bp,trivial⟩
       exact gT.val (s:=.v (.aK [])) (B7 ag) k
     · cases ab
   · cases ab
 · rename_i t parts a2
   split at ab
   · exact ss ab
   · split at ab
     · rename_i z b2 aT hu
       split at ab
       · rename_i cs aa ad ar
         obtain⟨cY,k⟩:=wz _ ar ab
         have hf:=CB _ _ _ ad cY
         rw[show aA.bB (z.cells.map kd)=z.cells by rw[ke,List.map_map,show aA.den∘kd=id from funext wx,List.map_id],List.map_map] at hf
         exact gT.val (s:=.ee cs) (by simp only[ch,a2,aT,hu,aa];exact by rw[show(parts.toList.map λp=>(p.1,(g p.2).den))=parts.toList.map ((λp=>(p.1,aA.den p.2))∘ λp=>(p.1,g p.2)) from rfl,hf];rfl) (sq k)
       · cases ab
     · cases ab
 · rename_i t len parts a2
   split at ab
   · exact ss ab
   · obtain⟨e,sz,z,cs,hu,hs,aT,aa,hf,ag,k⟩:=HJ ab
     rw[HK] at hf
     exact gT.val (s:=.v (.slice h.n 0 len (.exact len))) (by simp only[ch,a2,hu,hs,aT,aa,hf,newRow,ag];rfl) k
 · rename_i e x a2
   obtain⟨aC,ax,k⟩:=CA (aA.kR ab)
   exact gT.val (s:=.v (.ptr h.n 0)) (by simp only[ch,a2,newRow,aC,ax];rfl) k
 · rename_i c a2
   split at ab
   · rename_i hU
     split at ab
     · rename_i a t aX aQ
       obtain⟨n,e,k⟩:=ab
       have gr:c.args.toList.map (λy=>(g y).den)=[a]:=by
        have:(c.args.toList.map g).map aA.den=[a]:=by rw[aX];rfl
        rw[List.map_map] at this;exact this
       have ag:mY P o (λy=>(g y).den) h (.int .i64 (.ofNat n)):=by
        unfold mY
        rw[a2]
        simp only[hU,gr,aQ]
        exact e
       exact gT.val (s:=.v (.int .i64 (.ofNat n))) (r9 ag) k
     · exact ss ab
   · exact ss ab
 · exact ss ab
end
end aw
namespace aw
open Go
def keyOf(g7 i:Nat)(o:Oper):Nat:=match o.dst with
 |some t=>t
 |none=>3000+50*g7+i
section
variable (P:Program) (need:Nat)
def jJ(m:Nat)(env:List aA)(Γ:cM)(loc:List (Nat×Acc))(x:Operand):aA:=match kP m env Γ (cw P need loc x) with
 |some s=>s
 |none=>.v .bad
def zf(m:Nat)(env:List aA)(Γ:cM)(loc:List (Nat×Acc))(o:Oper):Bool:=o.op.operands.toList.all λx=>(kP m env Γ (cw P need loc x)).isSome
def zg(dQ:Option Bool)(gd:Option (Acc×Bool))(m:Nat)(env:List aA)(Γ:cM)(t_ ua:List aA->cM->ct):ct:=match gd with
 |none=>t_ env Γ
 |some (a,b)=>match kP m env Γ a with
  |none=>bad "guard"
  |some s=>match s with
   |.v (.aK [])=>ua env Γ
   |s=>s.dz dQ (qx (tV m a .iz env) λenv=>md (sj a .iz Γ) λΓ=>(match b with|true=>t_ env Γ|false=>ua env Γ)) (qx (tV m a .iA env) λenv=>md (sj a .iA Γ) λΓ=>(match b with|true=>ua env Γ|false=>t_ env Γ))
variable (inR:Bool) (call:aP->List I->J->av)
def wA(pl:jt)(key m:Nat)(env:List aA)(Γ:cM)(loc:List (Nat×Acc))(o:Oper)(d:List bA)(q:bt)(h:J)(K:List aA->cM->n3)(di:cM->n4):ct:=match o.op with
 |.pick c a b=>match kP m env Γ (cw P need loc c) with
  |none=>bad "pick"
  |some s=>s.dz (zb (sk (2000+key) pl)) (qx (tV m (cw P need loc c) .iz env) λeF=>md (sj (cw P need loc c) .iz Γ) λbV=>(jJ P need m env Γ loc a).kQ λx=>K eF bV x d q h) (qx (tV m (cw P need loc c) .iA env) λeF=>md (sj (cw P need loc c) .iA Γ) λbV=>(jJ P need m env Γ loc b).kQ λx=>K eF bV x d q h)
 |_=>Cx P inR call (sk key pl) o (jJ P need m env Γ loc) d q h (K env Γ) (di Γ)
def wB(pl:jt)(g7:Nat):List Step->List aA->cM->List bA->bt->J->(List aA->cM->List bA->bt->J->ct)->(I->cM->List bA->bt->J->ct)->ct
 |[],env,Γ,d,q,h,K,_=>K env Γ d q h
 |s::rest,env,Γ,d,q,h,K,di=>match zf P need s.m env Γ s.loc s.o with
  |false=>bad ("an operand " ++s.o.pos)
  |true=>zg (zb (sk (1000+keyOf g7 s.m s.o) pl)) s.guard s.m env Γ
   (λenv Γ=>wA P need inR call pl (keyOf g7 s.m s.o) s.m env Γ s.loc s.o d q h (λenv Γ v d q h=>wB pl g7 rest (v::env) Γ d q h K di) (λΓ v d q h=>di v Γ d q h))
   (λenv Γ=>wB pl g7 rest (.v (.aK [])::env) Γ d q h K di)
def su(t:Nat):cM->cM
 |[]=>[]
 |(u,s)::l=>match Nat.beq t u with
  |true=>su t l
  |false=>(u,s)::su t l
def sv(m:Nat)(env:List aA)(fv:cM):List (Nat×Acc)->cM->cM
 |[],Γ=>Γ
 |(t,a)::l,Γ=>match Nat.testBit need t with
  |true=>match kP m env fv a with
   |some s=>(t,s)::su t (sv m env fv l Γ)
   |none=>su t (sv m env fv l Γ)
  |false=>sv m env fv l Γ
def wC:List (Nat×Acc)->cM->cM
 |[],Γ=>Γ
 |(t,_)::l,Γ=>su t (wC l Γ)
abbrev lv:=List (Nat×Nat×J×Nat)
def g8:lv->ma
 |[]=>[]
 |(e,m,h,_)::l=>(e,m,h)::g8 l
def zh(o:Oper)(g:Operand->aA):Bool:=match o.op with
 |.move _|.assign _|.pick .. |.build .. |.nilCheck _|.makeInterface .. |.makeFunc .. |.fieldAddr .. |.field .. |.indexAddr .. |.index .. |.extract .. |.typeAssert .. =>true
 |.unOp .. =>true
 |.binOp _ _ x y _=>match g x,g y with
  |.v (.int _ _),.v (.int _ _)=>true
  |.v (.str _),.v (.str _)=>true
  |x,y=>x.sf&&y.sf
 |.call c=>match c.callee with
  |.builtin .len=>match c.argTypes[0]? with
   |some t=>match P.underlying t with
    |some (.slice _)=>true
    |some .string=>true
    |_=>false
   |none=>false
  |_=>false
 |_=>false
def ub:List aA->ct->ct
 |[],K=>K
 |.o a::l,K=>fk (a.sound=true) (ub l K)
 |s::l,K=>match s.den.sound with
  |true=>ub l K
  |false=>bad "sound"
def CD:aA->ct->ct
 |.o a,K=>fk (a.sound=true) K
 |.iz,K|.iA,K|.lt _ _,K|.le _ _,K|.eq _ _,K|.b4 _,K=>K
 |.v a,K=>match a.sound with
  |true=>K
  |false=>bad "sound"
 |.ee l,K=>ub l K
 |.kb l,K=>match h9 (aA.bB l) with
  |true=>K
  |false=>bad "sound"
def uc(s:DStep)(fO:Nat):Option Nat->J->Nat->lv->List (Option J)
 |dn,h,b9,aY=>
  (match o3 s dn (g8 aY) with
   |true=>[]
   |false=>[match Nat.beq b9 fO with|true=>none|false=>some h])++
  (match aY with
   |[]=>[]
   |(e,_,ak,jK)::rest=>uc s fO (some e) ak jK rest)
def ud(o:Oper)(g:Operand->I)(v:I)(qz:Bool):List (Option J)->ct->ct
 |[],K=>K
 |none::l,K=>ud o g v qz l K
 |some h::l,K=>match qz with
  |true=>ud o g v qz l K
  |false=>fk (mY P o g h v) (ud o g v qz l K)
def kf(ops:Array Oper)(n:Nat)(env:List aA)(dc:List Nat)(Γ:cM)(last:Option Nat)(h:J)(b9:Nat)(aY:lv):List DStep->ct->ct
 |[],K=>K
 |s::rest,K=>match Nat.blt s.i n,kindOf P s.o.op with
  |true,.pure=>match sh (n-1-s.i) env,nth (n-1-s.i) dc with
   |some v,some fO=>match uc s fO last h b9 aY with
    |[]=>kf ops n env dc Γ last h b9 aY rest K
    |l=>match v with
     |.v (.aK [])=>match iK P need ops s.loc s.o with
      |some (a,b)=>match kP n env Γ a with
       |some (.v (.aK []))=>kf ops n env dc Γ last h b9 aY rest K
       |some .iz=>match b with
        |false=>kf ops n env dc Γ last h b9 aY rest K
        |true=>bad "look"
       |some .iA=>match b with
        |true=>kf ops n env dc Γ last h b9 aY rest K
        |false=>bad "look"
       |_=>bad "look"
      |none=>bad "look"
     |v=>CD v (ud P s.o (λx=>(jJ P need n env Γ s.loc x).den) v.den (zh P s.o (jJ P need n env Γ s.loc)) l (kf ops n env dc Γ last h b9 aY rest K))
   |_,_=>bad "look"
  |_,_=>kf ops n env dc Γ last h b9 aY rest K
def CE(op:Op)(g:Operand->aA)(b:Nat)(K:aA->ca->ct):ct:=match op with
 |.box e x=>(g x).kQ λs=>tW s (K (.v (.ptr b 0)) (.cells (sl s) e .own 0 0))
 |.makeSlice t l c=>match e2 (g l).den with
  |some h4=>dE λz:ca=>fk (G2 P t (g l).den (g c).den b=some (.slice b 0 h4 (match e2 (g c).den with|some c'=>.exact c'|none=>.dead),z)) (K (.v (.slice b 0 h4 (match e2 (g c).den with|some c'=>.exact c'|none=>.dead))) z)
  |none=>bad "makeSlice"
 |.buildSlice t len parts=>match(me (parts.toList.map λp=>(p.1,g p.2))).any aA.Cv with
  |true=>zc P t len (parts.toList.map λp=>(p.1,g p.2)) λe cs=>K (.v (.slice b 0 len (.exact len))) (.cells (aA.bB cs) e .own 0 0)
  |false=>match iN P (.buildSlice t len parts) (λx=>(g x).den) b with
   |some (v,o)=>K (.v v) o
   |none=>bad "alloc"
 |op=>match iN P op (λx=>(g x).den) b with
  |some (v,o)=>K (.v v) o
  |none=>bad "alloc"
abbrev qA:=List aA->List Nat->cM->List bA->bt->J->Nat->lv->ct
def qB(pl:jt)(g7:Nat)(ops:Array Oper)(cp:Nat):List DStep->List aA->List Nat->cM->List bA->bt->J->Nat->lv->qA->(I->qA)->ct
 |[],env,dc,Γ,d,q,h,b9,aY,K,_=>K env dc Γ d q h b9 aY
 |s::rest,env,dc,Γ,d,q,h,b9,aY,K,di=>match zf P need s.i env Γ s.loc s.o with
  |false=>bad ("an operand " ++s.o.pos)
  |true=>zg (zb (sk (1000+keyOf g7 s.i s.o) pl)) (iK P need ops s.loc s.o) s.i env Γ
   (λenv Γ=>match kindOf P s.o.op with
    |.alloc=>CE P s.o.op (jJ P need s.i env Γ s.loc) (cp+s.i) λv o=>qB pl g7 ops cp rest (v::env) (b9::dc) Γ d q (h.set (cp+s.i) (some o)) (b9+1) aY K di
    |.pure=>wA P need inR call pl (keyOf g7 s.i s.o) s.i env Γ s.loc s.o d q h (λenv Γ v _ _ _=>qB pl g7 ops cp rest (v::env) (b9::dc) Γ d q h b9 aY K di) (λ_ _ _ _ _=>bad "a panic")
    |.dI=>match r6 s (g8 aY) with
     |false=>bad "order"
     |true=>wA P need inR call pl (keyOf g7 s.i s.o) s.i env Γ s.loc s.o d q h (λenv Γ v bn q' ak=>qB pl g7 ops cp rest (v::env) (b9::dc) Γ bn q' ak (b9+1) ((s.i,s.ek,h,b9)::aY) K di)
      (λΓ v bn q' ak=>match rest.all (λbo=>Nat.testBit bo.ek s.i) with
       |true=>di v env dc Γ bn q' ak (b9+1) ((s.i,s.ek,h,b9)::aY)
       |false=>bad "panic"))
   (λenv Γ=>match kindOf P s.o.op with
    |.dI=>match r6 s (g8 aY) with
     |false=>bad "order"
     |true=>qB pl g7 ops cp rest (.v (.aK [])::env) (b9::dc) Γ d q h b9 ((s.i,s.ek,h,b9)::aY) K di
    |_=>qB pl g7 ops cp rest (.v (.aK [])::env) (b9::dc) Γ d q h b9 aY K di)
end
end aw
namespace aw
open Go
section
variable {P:Program} {need:Nat} {inR:Bool} {call:aP->List I->J->av}
theorem CF{m:Nat}{env:List aA}{Γ:cM}{loc:List (Nat×Acc)}{x:Operand}:(jJ P need m env Γ loc x).den=(gf m (aA.bB env) (cA Γ) (cw P need loc x)).getD .bad:=by
 rw[<-tX]
 unfold jJ
 split<;>rename_i h<;>rw[h]<;>rfl
theorem HM{m:Nat}{env:List aA}{Γ:cM}{loc:List (Nat×Acc)}{o:Oper}(h:zf P need m env Γ loc o=true):∀x∈o.op.operands,(gf m (aA.bB env) (cA Γ) (cw P need loc x)).isSome=true:=by
 intro x ab
 unfold zf at h
 rw[List.all_eq_true] at h
 have:=h x (by simpa using ab)
 rw[<-tX,Option.isSome_map];exact this
theorem CG{r:aL}{G:Env}(hm:Mod r G){m:Nat}{l:List I}{loc:List (Nat×Acc)}{o:Oper}(h:∀x∈o.op.operands,(gf m l G (cw P need loc x)).isSome=true):∀x∈o.op.operands,dk m l r (cw P need loc x)=(gf m l G (cw P need loc x)).getD .bad:=by
 intro x ab
 obtain⟨v,aB⟩:=Option.isSome_iff_exists.1 (h x ab)
 rw[tY hm aB,aB];rfl
def m3(m:Nat)(l:List I)(G:Env)(gd:Option (Acc×Bool))(W:Bool):Prop:=match gd with
 |none=>W=true
 |some (a,b)=>∃wD,gf m l G a=some wD/\dO (some (wD,b))=some W
theorem m3.ok{m:Nat}{l:List I}{G:Env}{gd:Option (Acc×Bool)}{W:Bool}(h:m3 m l G gd W){r:aL}(hm:Mod r G):dO (gd.map λx=>(dk m l r x.1,x.2))=some W:=by
 cases gd with
 |none=>cases h;rfl
 |some x=>
  obtain⟨wD,aa,ad⟩:=h
  simp only[Option.map_some,tY hm aa,ad]
theorem m3.more{m:Nat}{l:List I}{G:Env}{gd:Option (Acc×Bool)}{W:Bool}(h:m3 m l G gd W)(x:I):m3 (m+1) (x::l) G gd W:=by
 cases gd with
 |none=>exact h
 |some y=>
  obtain⟨wD,aa,ad⟩:=h
  exact⟨wD,wy x aa,ad⟩
theorem HN{dQ:Option Bool}{gd:Option (Acc×Bool)}{m:Nat}{env:List aA}{Γ:cM}{t_ ua:List aA->cM->ct}(h:(zg dQ gd m env Γ t_ ua).p):
  ∃eF bV,aA.bB eF=aA.bB env/\cA bV=cA Γ/\eF.length=env.length/\(((t_ eF bV).p/\m3 m (aA.bB env) (cA Γ) gd true)\/((ua eF bV).p/\m3 m (aA.bB env) (cA Γ) gd false)):=by
 unfold zg at h
 split at h
 · exact⟨env,Γ,rfl,rfl,rfl,.inl ⟨h,rfl⟩⟩
 · rename_i a b
   split at h
   · cases h
   · rename_i s hs
     have h8:gf m (aA.bB env) (cA Γ) a=some s.den:=by rw[<-tX,hs];rfl
     split at h
     · exact⟨env,Γ,rfl,rfl,rfl,.inr ⟨h,_,h8,rfl⟩⟩
     · obtain⟨af,ab⟩:=ze _ h
       have az:=aA.n5 af
       rcases ab with⟨aQ,aq⟩|⟨aQ,aq⟩
       · rw[aQ] at az
         obtain⟨aC,ax,bp⟩:=tZ (x:=.iz) hs az
         refine⟨_,_,aC,ax,bp,?_⟩
         have aq:=m2 (sq aq)
         cases b with
         |true=>exact .inl ⟨aq,_,h8,by rw[az];rfl⟩
         |false=>exact .inr ⟨aq,_,h8,by rw[az];rfl⟩
       · rw[aQ] at az
         obtain⟨aC,ax,bp⟩:=tZ (x:=.iA) hs az
         refine⟨_,_,aC,ax,bp,?_⟩
         have aq:=m2 (sq aq)
         cases b with
         |true=>exact .inr ⟨aq,_,h8,by rw[az];rfl⟩
         |false=>exact .inl ⟨aq,_,h8,by rw[az];rfl⟩
theorem CH{pl:jt}{key m:Nat}{env:List aA}{Γ:cM}{loc:List (Nat×Acc)}{o:Oper}{d:List bA}{q:bt}{h:J}{K:List aA->cM->n3}{di:cM->n4}(ab:(wA P need inR call pl key m env Γ loc o d q h K di).p):
  ∃eF bV,aA.bB eF=aA.bB env/\cA bV=cA Γ/\eF.length=env.length/\gT (dm P inR call none o (λx=>(gf m (aA.bB env) (cA Γ) (cw P need loc x)).getD .bad) d q h) (K eF bV) (di bV):=by
 have aj:(λx=>(gf m (aA.bB env) (cA Γ) (cw P need loc x)).getD .bad)=λx=>(jJ P need m env Γ loc x).den:=funext λx=>CF.symm
 unfold wA at ab
 split at ab
 · rename_i c a b a2
   split at ab
   · cases ab
   · rename_i s hs
     obtain⟨af,aU⟩:=ze _ ab
     have az:=aA.n5 af
     have yW:(jJ P need m env Γ loc c).den=s.den:=by unfold jJ;rw[hs]
     rw[aj]
     rcases aU with⟨aQ,aq⟩|⟨aQ,aq⟩
     · rw[aQ] at az
       obtain⟨aC,ax,bp⟩:=tZ (x:=.iz) hs az
       exact⟨_,_,aC,ax,bp,gT.val (s:=jJ P need m env Γ loc a) (by simp only[ch,a2,yW,az]) (aA.kR (m2 (sq aq)))⟩
     · rw[aQ] at az
       obtain⟨aC,ax,bp⟩:=tZ (x:=.iA) hs az
       exact⟨_,_,aC,ax,bp,gT.val (s:=jJ P need m env Γ loc b) (by simp only[ch,a2,yW,az]) (aA.kR (m2 (sq aq)))⟩
 · rw[aj]
   exact⟨env,Γ,rfl,rfl,rfl,PH ab⟩
theorem CI{r:aL}{s:Step}{rest:List Step}{env:List I}{d:List bA}{q:bt}{h:J}:iL P need inR call r (s::rest) env d q h=match dm P inR call (s.guard.map λx=>(dk s.m env r x.1,x.2)) s.o (λx=>dk s.m env r (cw P need s.loc x)) d q h with
  |.ok v bn q' ak=>iL P need inR call r rest (v::env) bn q' ak
  |.bK v bn q' ak=>.bK v bn q' ak
  |.fail w=>.fail w:=by
 obtain⟨gd,o,loc,m⟩:=s
 cases gd<;>rfl
theorem CJ{pl:jt}{g7:Nat}:∀(l:List Step) (env:List aA) (Γ:cM) (d:List bA) (q:bt) (h:J) {K:List aA->cM->List bA->bt->J->ct} {di:I->cM->List bA->bt->J->ct},(wB P need inR call pl g7 l env Γ d q h K di).p->
  (∃eF bV bn q' ak,(∀r,Mod r (cA Γ)->iL P need inR call r l (aA.bB env) d q h=.ok (aA.bB eF) bn q' ak)/\cA bV=cA Γ/\(K eF bV bn q' ak).p)\/∃v bV bn q' ak,(∀r,Mod r (cA Γ)->iL P need inR call r l (aA.bB env) d q h=.bK v bn q' ak)/\cA bV=cA Γ/\(di v bV bn q' ak).p
 |[],env,Γ,d,q,h,K,di,ab=>.inl ⟨env,Γ,d,q,h,λ_ _=>rfl,rfl,ab⟩
 |s::rest,env,Γ,d,q,h,K,di,ab=>by
  simp only[wB] at ab
  split at ab
  · cases ab
  · rename_i aq
    have gi:∀r,Mod r (cA Γ)->∀gd,dm P inR call gd s.o (λx=>dk s.m (aA.bB env) r (cw P need s.loc x)) d q h=dm P inR call gd s.o (λx=>(gf s.m (aA.bB env) (cA Γ) (cw P need s.loc x)).getD .bad) d q h:=λr hm gd=>rT (CG hm (HM aq))
    obtain⟨mf,fK,aC,ax,bp,hw⟩:=HN ab
    rcases hw with⟨hw,n6⟩|⟨hw,n6⟩
    · obtain⟨m4,g6,f1,f2,f3,a2⟩:=CH hw
      rw[aC,ax] at a2
      rcases a2 with⟨x,d1,aR,aa,he,dj⟩|⟨v,d1,aR,aa,he,dj⟩
      · have bg:=CJ rest (x::m4) g6 d1 aR aa dj
        have key:∀r,Mod r (cA Γ)->iL P need inR call r (s::rest) (aA.bB env) d q h=iL P need inR call r rest (aA.bB (x::m4)) d1 aR aa:=λr hm=>by
         rw[CI,gi r hm,tP (n6.ok hm),he]
         simp only[aA.bB,f1,aC]
        rw[f2,ax] at bg
        rcases bg with⟨eF,bV,bn,q',ak,i1,i2,i3⟩|⟨v,bV,bn,q',ak,i1,i2,i3⟩
        · exact .inl ⟨eF,bV,bn,q',ak,λr hm=>(key r hm).trans (i1 r hm),i2,i3⟩
        · exact .inr ⟨v,bV,bn,q',ak,λr hm=>(key r hm).trans (i1 r hm),i2,i3⟩
      · refine .inr ⟨v,g6,d1,aR,aa,λr hm=>?_,f2.trans ax,dj⟩
        rw[CI,gi r hm,tP (n6.ok hm),he]
    · have bg:=CJ rest (.v (.aK [])::mf) fK d q h hw
      have key:∀r,Mod r (cA Γ)->iL P need inR call r (s::rest) (aA.bB env) d q h=iL P need inR call r rest (aA.bB (.v (.aK [])::mf)) d q h:=λr hm=>by
       rw[CI,wa (n6.ok hm)]
       simp only[aA.bB,aA.den,aC]
      rw[ax] at bg
      rcases bg with⟨eF,bV,bn,q',ak,i1,i2,i3⟩|⟨v,bV,bn,q',ak,i1,i2,i3⟩
      · exact .inl ⟨eF,bV,bn,q',ak,λr hm=>(key r hm).trans (i1 r hm),i2,i3⟩
      · exact .inr ⟨v,bV,bn,q',ak,λr hm=>(key r hm).trans (i1 r hm),i2,i3⟩
theorem wE(t:Nat):∀Γ:cM,cA (su t Γ)=del t (cA Γ)
 |[]=>rfl
 |(u,s)::l=>by
  simp only[su,cA,del]
  cases Nat.beq t u with
  |true=>exact wE t l
  |false=>simp only[cA];rw[wE t l]
theorem CK{m:Nat}{env:List aA}{gE:aL}{fv:cM}(hm:Mod gE (cA fv)):∀(l:List (Nat×Acc)) (r:aL) (Γ:cM),Mod r (cA Γ)->Mod (oE need m (aA.bB env) gE l r) (cA (sv need m env fv l Γ))
 |[],r,Γ,h=>h
 |(t,a)::l,r,Γ,h=>by
  have bg:=CK (m:=m) (env:=env) hm l r Γ h
  simp only[oE,sv]
  cases Nat.testBit need t with
  |false=>exact bg
  |true=>
   cases aj:kP m env fv a with
   |some s=>
    have:gf m (aA.bB env) (cA fv) a=some s.den:=by rw[<-tX,aj];rfl
    simp only[cA,wE]
    rw[tY hm this];exact bg.put t s.den
   |none=>simp only[wE];exact bg.del t _
theorem CL:∀(l:List (Nat×Acc)) (r:aL) (Γ:cM),Mod r (cA Γ)->Mod (tg l r) (cA (wC l Γ))
 |[],r,Γ,h=>h
 |(t,a)::l,r,Γ,h=>by simp only[wC,wE];exact(CL l r Γ h).del t _
theorem HO:∀(ops:List Oper) (n:Nat) (loc:List (Nat×Acc)) (fC:List Nat) (k:Nat) (s:DStep),(ev ops n loc fC)[k]? =some s->s.i=n+k
 |[],n,loc,fC,k,s,h=>by simp[ev] at h
 |o::l,n,loc,fC,0,s,h=>by simp only[ev,List.getElem?_cons_zero,Option.some.injEq] at h;rw[<-h];rfl
 |o::l,n,loc,fC,k+1,s,h=>by
  simp only[ev,List.getElem?_cons_succ] at h
  have:=HO l (n+1) _ _ k s h
  omega
def ue(P:Program)(need:Nat)(ops:Array Oper)(s:DStep)(n:Nat)(l:List I)(G:Env)(dc:List Nat)(H:Nat->J):Prop:=s.i<n/\(kindOf P s.o.op=.pure->(∀x∈s.o.op.operands,(gf n l G (cw P need s.loc x)).isSome=true)/\∀v fO,nth (n-1-s.i) l=some v->nth (n-1-s.i) dc=some fO->m3 n l G (iK P need ops s.loc s.o) false\/(m3 n l G (iK P need ops s.loc s.o) true/\∃ak,ch P s.o (λx=>(gf n l G (cw P need s.loc x)).getD .bad) (H fO)=.val v ak))
theorem PI{α:Type}{n i:Nat}(h:i<n)(x:α)(l:List α):nth (n+1-1-i) (x::l)=nth (n-1-i) l:=by
 have:n+1-1-i=(n-1-i)+1:=by omega
 rw[this];rfl
theorem HP{α:Type}:∀(n:Nat) (l:List α) (x:α),nth n l=some x->x∈l
 |0,[],_,h=>by cases h
 |_+1,[],_,h=>by cases h
 |0,y::l,x,h=>by cases h;exact List.mem_cons_self
 |n+1,y::l,x,h=>List.mem_cons_of_mem _ (HP n l x h)
theorem ue.more{ops:Array Oper}{s:DStep}{n:Nat}{l:List I}{G:Env}{dc:List Nat}{H aO:Nat->J}(h:ue P need ops s n l G dc H)(x:I)(y:Nat)(cR:∀fO∈dc,aO fO=H fO):ue P need ops s (n+1) (x::l) G (y::dc) aO:=by
 obtain⟨aa,ad⟩:=h
 refine⟨by omega,λaq=>?_⟩
 obtain⟨bG,bF⟩:=ad aq
 refine⟨λz aT=>?_,λv fO aB kS=>?_⟩
 · obtain⟨w,hw⟩:=Option.isSome_iff_exists.1 (bG z aT)
   rw[wy x hw];rfl
 · rw[PI aa] at aB kS
   rcases bF v fO aB kS with e|⟨dt,ak,e⟩
   · exact .inl (e.more x)
   · have PJ:=HP _ _ _ kS
     refine .inr ⟨dt.more x,ak,?_⟩
     rw[cR fO PJ,<-e]
     exact vT s.o _ λz aT=>by
      obtain⟨w,hw⟩:=Option.isSome_iff_exists.1 (bG z aT)
      rw[wy x hw,hw]
end
end aw
namespace aw
open Go
section
variable {P:Program} {need:Nat} {inR:Bool} {call:aP->List I->J->av}
theorem zi:∀l:List aA,(aA.bB l).length=l.length
 |[]=>rfl
 |_::l=>by simp only[aA.bB,List.length_cons,zi l]
structure lx(P:Program)(need:Nat)(ops:Array Oper)(pre:List DStep)(env:List aA)(dc:List Nat)(Γ:cM)(h:J)(b9:Nat)(aY:lv)(H:Nat->J):Prop where
 cur:H b9=h
 le:∀fO∈dc,fO<=b9
 st:∀z∈aY,z.2.2.2<=b9/\H z.2.2.2=z.2.2.1
 pl:pre.length=env.length
 seen:∀s∈pre,ue P need ops s env.length (aA.bB env) (cA Γ) dc H
theorem lx.push{ops:Array Oper}{pre:List DStep}{env eF:List aA}{dc:List Nat}{Γ bV:cM}{h ak:J}{b9 jK:Nat}{aY qC:lv}{H aO:Nat->J}(w:lx P need ops pre env dc Γ h b9 aY H){s:DStep}{v:aA}(ae:s.i=env.length)(aC:aA.bB eF=aA.bB env)(ax:cA bV=cA Γ)(bp:eF.length=env.length)
  (cR:∀k,k<=b9->aO k=H k)(aB:b9<=jK)(ag:aO jK=ak)(hs:∀z∈qC,z.2.2.2<=jK/\aO z.2.2.2=z.2.2.1)
  (a6:kindOf P s.o.op=.pure->(∀x∈s.o.op.operands,(gf s.i (aA.bB env) (cA Γ) (cw P need s.loc x)).isSome=true)/\(m3 s.i (aA.bB env) (cA Γ) (iK P need ops s.loc s.o) false\/(m3 s.i (aA.bB env) (cA Γ) (iK P need ops s.loc s.o) true/\∃ib,ch P s.o (λx=>(gf s.i (aA.bB env) (cA Γ) (cw P need s.loc x)).getD .bad) h=.val v.den ib))):
  lx P need ops (pre++[s]) (v::eF) (b9::dc) bV ak jK qC aO:=by
 refine⟨ag,λfO kS=>?_,hs,by simp[w.pl,bp],λz aT=>?_⟩
 · rcases List.mem_cons.1 kS with rfl|kS
   · exact aB
   · exact Nat.le_trans (w.le fO kS) aB
 · rw[List.length_cons,bp,ax]
   simp only[aA.bB,aC]
   rcases List.mem_append.1 aT with aT|aT
   · exact(w.seen z aT).more _ _ λfO kS=>cR fO (w.le fO kS)
   · obtain rfl:z=s:=by simpa using aT
     refine⟨by omega,λaq=>?_⟩
     obtain⟨bG,bF⟩:=a6 aq
     rw[ae] at bG bF
     refine⟨λx ab=>?_,λu fO hu kS=>?_⟩
     · obtain⟨y,aU⟩:=Option.isSome_iff_exists.1 (bG x ab)
       rw[wy _ aU];rfl
     · have h0:env.length+1-1-z.i=0:=by omega
       rw[h0] at hu kS
       cases hu;cases kS
       rcases bF with bF|⟨rr,ib,bF⟩
       · exact .inl (bF.more _)
       · refine .inr ⟨rr.more _,ib,?_⟩
         rw[cR b9 (Nat.le_refl _),w.cur,<-bF]
         exact vT _ _ λx ab=>by
          obtain⟨y,aU⟩:=Option.isSome_iff_exists.1 (bG x ab)
          rw[wy _ aU,aU]
theorem wF{ops:Array Oper}{r:aL}{n:Nat}{env:List I}{s:DStep}:fL P need ops r n env s=(iK P need ops s.loc s.o).map λx=>(dk n env r x.1,x.2):=by
 unfold fL
 cases iK P need ops s.loc s.o<;>rfl
def HQ:gg->Prop
 |.val _ _=>True
 |.bK _ _=>True
 |.fail _=>True
 |_=>False
theorem PK{o:Oper}{g:Operand->I}{H:J}(aq:kindOf P o.op=.pure):HQ (ch P o g H):=by
 have fN:∀(w:String) (x:Option I),HQ (e3 H w x):=λw x=>by cases x<;>trivial
 obtain⟨dst,op,type,pos,after,guard⟩:=o
 cases op<;>simp only[kindOf] at aq<;>(try (cases aq;done))<;>unfold ch<;>simp only
 case binOp=>exact fN _ _
 case slice=>exact fN _ _
 case lookup=>exact fN _ _
 case convert s d x=>
  have df:∀e,P.underlying d≠some (.slice e):=λe he=>by rw[he] at aq;cases aq
  unfold fp
  repeat' (first|trivial|exact absurd (by assumption) (df _)|split)
 case call c=>
  cases ag:c.callee with
  |value f=>rw[ag] at aq;cases aq
  |invoke r n=>rw[ag] at aq;cases aq
  |builtin b=>
   rw[ag] at aq
   cases b<;>simp only at aq<;>(try (cases aq;done))<;>simp only[hg]<;>repeat' (first|trivial|exact fN _ _|split)
 all_goals repeat' (first|trivial|exact fN _ _|split)
theorem PL{o:Oper}{g:Operand->I}{d d1:List bA}{q aR:bt}{h aa:J}{v:I}(aq:kindOf P o.op=.pure)(e:dm P inR call none o g d q h=.ok v d1 aR aa):∃ak,ch P o g h=.val v ak:=by
 have aB:=PK (P:=P) (g:=g) (H:=h) aq
 unfold dm at e
 simp only[dO] at e
 cases a2:ch P o g h<;>rw[a2] at e aB<;>first|(exact aB.elim)|(cases e;done)|(cases e;exact⟨_,rfl⟩)
theorem PM{op:Op}{g:Operand->aA}{b:Nat}{K:aA->ca->ct}(h:(CE P op g b K).p):∃s o,iN P op (λx=>(g x).den) b=some (aA.den s,o)/\(K s o).p:=by
 unfold CE at h
 split at h
 · rename_i e x
   obtain⟨aC,ax,k⟩:=CA (aA.kR h)
   exact⟨_,_,by simp only[iN,aC,ax];rfl,k⟩
 · rename_i t l c
   split at h
   · obtain⟨z,aT,k⟩:=h
     exact⟨_,_,G4 (op:=.makeSlice t l c) (v:=aA.den (.v _)) aT,k⟩
   · cases h
 · rename_i t len parts
   split at h
   · obtain⟨e,sz,z,cs,hu,hs,aT,aa,hf,ag,k⟩:=HJ h
     rw[HK] at hf
     exact⟨.v _,_,by simp only[iN,hu,hs,aT,aa,hf,ag];rfl,k⟩
   · split at h
     · rename_i v o aB
       exact⟨.v v,o,aB,h⟩
     · cases h
 · split at h
   · rename_i v o aB
     exact⟨.v v,o,aB,h⟩
   · cases h
def o_(H:Nat->J)(k:Nat)(h:J)(j:Nat):J:=if j=k then h else H j
def n7(P:Program)(need:Nat)(inR:Bool)(call:aP->List I->J->av)(ops:Array Oper)(cp:Nat)(full l:List DStep)(env:List aA)(G:Env)(d:List bA)(q:bt)(h:J)(aY:lv)(K:qA)(di:I->qA):Prop:=
 (∃eF qD bV bn q' ak jK qC aO,(∀r,Mod r G->fq P need inR call ops r cp l (aA.bB env) d q h (g8 aY)=.ok (aA.bB eF) bn q' ak (g8 qC))/\cA bV=G/\lx P need ops full eF qD bV ak jK qC aO/\(K eF qD bV bn q' ak jK qC).p)\/
 ∃v eF qD bV bn q' ak jK e m h0 uf qp aO wG,(∀r,Mod r G->fq P need inR call ops r cp l (aA.bB env) d q h (g8 aY)=.bK v (aA.bB eF) bn q' ak (g8 ((e,m,h0,uf)::qp)))/\cA bV=G/\lx P need ops wG eF qD bV h0 uf qp aO/\(∃post,full=wG++post)/\(di v eF qD bV bn q' ak jK ((e,m,h0,uf)::qp)).p
theorem n7.trans{ops:Array Oper}{cp:Nat}{full l bT:List DStep}{env m4:List aA}{G:Env}{d d2:List bA}{q a3:bt}{h ad:J}{aY HR:lv}{K:qA}{di:I->qA}(aq:∀r,Mod r G->fq P need inR call ops r cp l (aA.bB env) d q h (g8 aY)=fq P need inR call ops r cp bT (aA.bB m4) d2 a3 ad (g8 HR))(he:n7 P need inR call ops cp full bT m4 G d2 a3 ad HR K di):n7 P need inR call ops cp full l env G d q h aY K di:=by
 rcases he with⟨cY,dr,h2,m5,pa,ug,CM,CN,CO,bb,bz,cP,iB⟩|⟨cY,dr,h2,m5,pa,ug,CM,CN,CO,a4,a_,cO,hD,n8,iC,bb,bz,cP,iB,zj⟩
 · exact .inl ⟨cY,dr,h2,m5,pa,ug,CM,CN,CO,λr hm=>(aq r hm).trans (bb r hm),bz,cP,iB⟩
 · exact .inr ⟨cY,dr,h2,m5,pa,ug,CM,CN,CO,a4,a_,cO,hD,n8,iC,λr hm=>(aq r hm).trans (bb r hm),bz,cP,iB,zj⟩
theorem sw{ops:Array Oper}{r:aL}{cp:Nat}{s:DStep}{rest:List DStep}{env:List I}{d:List bA}{q:bt}{h:J}{aY:ma}:fq P need inR call ops r cp (s::rest) env d q h aY=
  match kindOf P s.o.op with
  |.alloc=>match dO (fL P need ops r s.i env s) with
   |none=>.fail ("guard " ++s.o.pos)
   |some false=>fq P need inR call ops r cp rest (.aK []::env) d q h aY
   |some true=>match iN P s.o.op (λx=>dk s.i env r (cw P need s.loc x)) (cp+s.i) with
    |some (v,o)=>fq P need inR call ops r cp rest (v::env) d q (h.set (cp+s.i) (some o)) aY
    |none=>.fail ("alloc " ++s.o.pos)
  |.pure=>match dm P inR call (fL P need ops r s.i env s) s.o (λx=>dk s.i env r (cw P need s.loc x)) d q h with
   |.ok v _ _ _=>fq P need inR call ops r cp rest (v::env) d q h aY
   |.bK _ _ _ _=>.fail ("pure " ++s.o.pos)
   |.fail w=>.fail w
  |.dI=>match r6 s aY with
   |false=>.fail ("order " ++s.o.pos)
   |true=>match dm P inR call (fL P need ops r s.i env s) s.o (λx=>dk s.i env r (cw P need s.loc x)) d q h with
    |.ok v bn q' ak=>fq P need inR call ops r cp rest (v::env) bn q' ak ((s.i,s.ek,h)::aY)
    |.bK v bn q' ak=>match rest.all (λbo=>Nat.testBit bo.ek s.i) with
     |true=>.bK v env bn q' ak ((s.i,s.ek,h)::aY)
     |false=>.fail ("panic " ++s.o.pos)
    |.fail w=>.fail w:=by
 cases aY<;>rfl
theorem sx{pl:jt}{g7:Nat}{ops:Array Oper}{cp:Nat}{full:List DStep}(n9:∀(k:Nat) (s:DStep),full[k]? =some s->s.i=k){K:qA}{di:I->qA}:∀(l pre:List DStep) (env:List aA) (dc:List Nat) (Γ:cM) (d:List bA) (q:bt) (h:J) (b9:Nat) (aY:lv) (H:Nat->J),full=pre++l->lx P need ops pre env dc Γ h b9 aY H->(qB P need inR call pl g7 ops cp l env dc Γ d q h b9 aY K di).p->n7 P need inR call ops cp full l env (cA Γ) d q h aY K di
 |[],pre,env,dc,Γ,d,q,h,b9,aY,H,hf,w,ab=>by
  rw[List.append_nil] at hf
  subst hf
  exact .inl ⟨env,dc,Γ,d,q,h,b9,aY,H,λ_ _=>rfl,rfl,w,ab⟩
 |s::rest,pre,env,dc,Γ,d,q,h,b9,aY,H,hf,w,ab=>by
  have ae:s.i=env.length:=by
   rw[<-w.pl]
   exact n9 pre.length s (by rw[hf];simp)
  have uh:full=(pre++[s])++rest:=by rw[hf];simp
  simp only[qB] at ab
  split at ab
  · cases ab
  · rename_i aq
    have sy:=HM aq
    have aj:∀r,Mod r (cA Γ)->∀x∈s.o.op.operands,dk s.i (aA.bB env) r (cw P need s.loc x)=(gf s.i (aA.bB env) (cA Γ) (cw P need s.loc x)).getD .bad:=λr hm=>CG hm sy
    have gi:∀r,Mod r (cA Γ)->∀gd,dm P inR call gd s.o (λx=>dk s.i (aA.bB env) r (cw P need s.loc x)) d q h=dm P inR call gd s.o (λx=>(gf s.i (aA.bB env) (cA Γ) (cw P need s.loc x)).getD .bad) d q h:=λr hm gd=>rT (aj r hm)
    obtain⟨mf,fK,aC,ax,bp,hw⟩:=HN ab
    have jo:∀z∈aY,z.2.2.2<=b9/\H z.2.2.2=z.2.2.1:=w.st
    rcases hw with⟨hw,n6⟩|⟨hw,n6⟩
    · have qE:∀r,Mod r (cA Γ)->dO (fL P need ops r s.i (aA.bB env) s)=some true:=λr hm=>by rw[wF];exact n6.ok hm
      split at hw
      · rename_i gb
        obtain⟨v,o,aX,dj⟩:=PM hw
        have PN:iN P s.o.op (λx=>(gf s.i (aA.bB env) (cA Γ) (cw P need s.loc x)).getD .bad) (cp+s.i)=some (v.den,o):=by
         rw[<-aX];congr 1;exact funext λx=>by rw[CF,aC,ax]
        have cC:lx P need ops (pre++[s]) (v::mf) (b9::dc) fK (h.set (cp+s.i) (some o)) (b9+1) aY (o_ H (b9+1) (h.set (cp+s.i) (some o))):=
         w.push ae aC ax bp (λk aq=>by unfold o_;rw[if_neg (by omega)]) (by omega) (by unfold o_;rw[if_pos rfl]) (λz aT=>by
          obtain⟨c7,fu⟩:=jo z aT
          exact⟨by omega,by unfold o_;rw[if_neg (by omega)];exact fu⟩) (λa6=>by rw[gb] at a6;cases a6)
        have bg:=sx n9 rest (pre++[s]) (v::mf) (b9::dc) fK d q _ (b9+1) aY _ uh cC dj
        rw[ax] at bg
        refine n7.trans (λr hm=>?_) bg
        rw[sw,gb]
        simp only[qE r hm]
        rw[vU _ _ (aj r hm),PN]
        simp only[aA.bB,aC]
      · rename_i gb
        obtain⟨m4,g6,f1,f2,f3,a2⟩:=CH hw
        rw[aC,ax] at a2
        rcases a2 with⟨x,d1,aR,aa,he,dj⟩|⟨v,d1,aR,aa,he,dj⟩
        · have fE:=PL gb he
          have cC:lx P need ops (pre++[s]) (x::m4) (b9::dc) g6 h b9 aY H:=
           w.push ae (f1.trans aC) (f2.trans ax) (f3.trans bp) (λk aq=>rfl) (Nat.le_refl _) w.cur jo (λ_=>⟨sy,.inr ⟨n6,fE⟩⟩)
          have bg:=sx n9 rest (pre++[s]) (x::m4) (b9::dc) g6 d q h b9 aY H uh cC dj
          rw[f2,ax] at bg
          refine n7.trans (λr hm=>?_) bg
          rw[sw,gb]
          simp only
          rw[gi r hm,tP (qE r hm),he]
          simp only[aA.bB,f1,aC]
        · cases dj
      · rename_i gb
        split at hw
        · cases hw
        · rename_i j8
          obtain⟨m4,g6,f1,f2,f3,a2⟩:=CH hw
          rw[aC,ax] at a2
          rcases a2 with⟨x,d1,aR,aa,he,dj⟩|⟨v,d1,aR,aa,he,dj⟩
          · have cC:lx P need ops (pre++[s]) (x::m4) (b9::dc) g6 aa (b9+1) ((s.i,s.ek,h,b9)::aY) (o_ H (b9+1) aa):=
              w.push ae (f1.trans aC) (f2.trans ax) (f3.trans bp) (λk aq=>by unfold o_;rw[if_neg (by omega)]) (by omega) (by unfold o_;rw[if_pos rfl]) (λz aT=>by
               rcases List.mem_cons.1 aT with rfl|aT
               · exact⟨by simp,by unfold o_;rw[if_neg (by simp)];exact w.cur⟩
               · obtain⟨c7,fu⟩:=jo z aT
                 exact⟨by omega,by unfold o_;rw[if_neg (by omega)];exact fu⟩) (λa6=>by rw[gb] at a6;cases a6)
            have bg:=sx n9 rest (pre++[s]) (x::m4) (b9::dc) g6 d1 aR aa (b9+1) _ _ uh cC dj
            rw[f2,ax] at bg
            refine n7.trans (λr hm=>?_) bg
            rw[sw,gb]
            simp only[j8]
            rw[gi r hm,tP (qE r hm),he]
            simp only[aA.bB,f1,aC,g8]
          · split at dj
            · rename_i eO
              refine .inr ⟨v,mf,dc,g6,d1,aR,aa,b9+1,s.i,s.ek,h,b9,aY,H,pre,λr hm=>?_,f2.trans ax,?_,⟨_,hf⟩,dj⟩
              · rw[sw,gb]
                simp only[j8]
                rw[gi r hm,tP (qE r hm),he]
                simp only[eO,g8,aC]
              · exact⟨w.cur,w.le,w.st,w.pl.trans bp.symm,by rw[f2,ax,aC,bp];exact w.seen⟩
            · cases dj
    · have qE:∀r,Mod r (cA Γ)->dO (fL P need ops r s.i (aA.bB env) s)=some false:=λr hm=>by rw[wF];exact n6.ok hm
      cases gb:kindOf P s.o.op with
      |dI=>
       rw[gb] at hw
       simp only at hw
       split at hw
       · cases hw
       · rename_i j8
         have cC:lx P need ops (pre++[s]) (.v (.aK [])::mf) (b9::dc) fK h b9 ((s.i,s.ek,h,b9)::aY) H:=
          w.push ae aC ax bp (λk aq=>rfl) (Nat.le_refl _) w.cur (λz aT=>by
           rcases List.mem_cons.1 aT with rfl|aT
           · exact⟨Nat.le_refl _,w.cur⟩
           · exact jo z aT) (λa6=>by rw[gb] at a6;cases a6)
         have bg:=sx n9 rest (pre++[s]) (.v (.aK [])::mf) (b9::dc) fK d q h b9 _ H uh cC hw
         rw[ax] at bg
         refine n7.trans (λr hm=>?_) bg
         rw[sw,gb]
         simp only[j8]
         rw[wa (qE r hm)]
         simp only[aA.bB,aA.den,aC,g8]
      |alloc=>
       rw[gb] at hw
       simp only at hw
       have cC:lx P need ops (pre++[s]) (.v (.aK [])::mf) (b9::dc) fK h b9 aY H:=
        w.push ae aC ax bp (λk aq=>rfl) (Nat.le_refl _) w.cur jo (λa6=>by rw[gb] at a6;cases a6)
       have bg:=sx n9 rest (pre++[s]) (.v (.aK [])::mf) (b9::dc) fK d q h b9 aY H uh cC hw
       rw[ax] at bg
       refine n7.trans (λr hm=>?_) bg
       rw[sw,gb]
       simp only[qE r hm]
       simp only[aA.bB,aA.den,aC]
      |pure=>
       rw[gb] at hw
       simp only at hw
       have cC:lx P need ops (pre++[s]) (.v (.aK [])::mf) (b9::dc) fK h b9 aY H:=
        w.push ae aC ax bp (λk aq=>rfl) (Nat.le_refl _) w.cur jo (λ_=>⟨sy,.inl n6⟩)
       have bg:=sx n9 rest (pre++[s]) (.v (.aK [])::mf) (b9::dc) fK d q h b9 aY H uh cC hw
       rw[ax] at bg
       refine n7.trans (λr hm=>?_) bg
       rw[sw,gb]
       simp only
       rw[wa (qE r hm)]
       simp only[aA.bB,aA.den,aC]
end
end aw
namespace aw
open Go
section
variable {P:Program} {need:Nat} {inR:Bool} {call:aP->List I->J->av}
theorem PO{o:Oper}{g:Operand->aA}(an:zh P o g=true){h aa:J}{v:I}(e:ch P o (λx=>(g x).den) h=.val v aa)(ak:J):∃ad,ch P o (λx=>(g x).den) ak=.val v ad:=by
 have fN:∀{w:String} {x:Option I},e3 h w x=.val v aa->∃ad,e3 ak w x=.val v ad:=λ{w x} e=>by
  cases x with
  |none=>cases e
  |some y=>cases e;exact⟨_,rfl⟩
 obtain⟨dst,op,type,pos,after,guard⟩:=o
 cases op<;>simp only[zh] at an<;>(try (cases an;done))<;>unfold ch at e⊢ <;>simp only at e⊢
 case binOp op t x y yt=>
  split at an
  · rename_i k a dH b ab aU
    rw[ab,aU] at e⊢
    simp only[aA.den,dX] at e⊢
    exact fN e
  · rename_i a b ab aU
    rw[ab,aU] at e⊢
    simp only[aA.den,dX] at e⊢
    exact fN e
  · rw[Bool.and_eq_true] at an
    rw[aA.n5 an.1,aA.n5 an.2] at e⊢
    have ah:dX P ak op t x y (.bool (g x).js) (.bool (g y).js)=dX P h op t x y (.bool (g x).js) (.bool (g y).js):=by
     simp only[dX,g1]
    rw[ah];exact fN e
 case call c=>
  split at an
  · rename_i ag
    rw[ag] at e⊢
    simp only[hg] at e⊢
    split at an
    · rename_i t aQ
      rw[aQ] at e⊢
      cases gr:c.args.toList.map λx=>(g x).den with
      |nil=>rw[gr] at e;cases e
      |cons x l=>
       rw[gr] at e
       cases l with
       |nil=>
        simp only at e⊢
        split at an
        · rename_i el hu
          simp only[cb,hu] at e⊢
          cases x<;>simp only at e⊢ <;>exact fN e
        · rename_i hu
          simp only[cb,hu] at e⊢
          cases x<;>simp only at e⊢ <;>exact fN e
        · cases an
       |cons y l=>
        cases l with
        |nil=>simp only at e;cases e
        |cons z l=>simp only at e;cases e
    · cases an
  · cases an
 case typeAssert=>repeat' (first|contradiction|exact fN e|(cases e;done)|(cases e;exact⟨_,rfl⟩)|(cases e;simp_all;done)|split at e)
 all_goals repeat' (first|contradiction|exact fN e|(cases e;exact⟨_,rfl⟩)|(rw[if_pos (by assumption)];first|exact fN e|(cases e;exact⟨_,rfl⟩))|(cases e;done)|split at e)
theorem HS{K:ct}:∀(l:List aA),(ub l K).p->h9 (aA.bB l)=true/\K.p
 |[],h=>⟨rfl,h⟩
 |s::l,h=>by
  have key:s.den.sound=true/\(ub l K).p:=by
   cases s<;>simp only[ub] at h<;>first|exact h|(split at h<;>first|exact⟨by assumption,h⟩|cases h)
  obtain⟨bG,bF⟩:=HS l key.2
  exact⟨by simp only[aA.bB,h9,key.1,bG,Bool.and_true],bF⟩
theorem HT{s:aA}{K:ct}(h:(CD s K).p):s.den.sound=true/\K.p:=by
 cases s<;>simp only[CD] at h<;>first|exact⟨rfl,h⟩|exact h|skip
 all_goals first
  |exact HS _ h
  |(split at h
    · rename_i hs;exact⟨hs,h⟩
    · cases h)
theorem wH{o:Oper}{g:Operand->I}{v:I}{qz:Bool}{K:ct}:∀(l:List (Option J)),(ud P o g v qz l K).p->K.p/\(qz=false->∀h,some h∈l->mY P o g h v)
 |[],h=>⟨h,λ_ _ hm=>by cases hm⟩
 |none::l,h=>by
  obtain⟨aa,ad⟩:=wH l h
  exact⟨aa,λaG ak hm=>by
   rcases List.mem_cons.1 hm with e|hm
   · cases e
   · exact ad aG ak hm⟩
 |some x::l,h=>by
  simp only[ud] at h
  cases qz with
  |true=>
   obtain⟨aa,ad⟩:=wH l h
   exact⟨aa,λaG=>by cases aG⟩
  |false=>
   obtain⟨h0,h⟩:=h
   obtain⟨aa,ad⟩:=wH l h
   exact⟨aa,λaG ak hm=>by
    rcases List.mem_cons.1 hm with e|hm
    · cases e;exact h0
    · exact ad aG ak hm⟩
theorem HU{ops:Array Oper}{r:aL}{n:Nat}{env:List I}{s:DStep}{v:I}{fO:Nat}{H:Nat->J}:∀(aY:lv) (dn:Option Nat) (h:J) (b9:Nat),H b9=h->(∀z∈aY,H z.2.2.2=z.2.2.1)->(∀o∈uc s fO dn h b9 aY,ku P need ops r n env s v (match o with|none=>H fO|some h=>h)=true)->jB P need ops r n env s v dn h (g8 aY)=true
 |[],dn,h,b9,ah,hs,an=>by
  simp only[g8]
  rw[yX]
  simp only[uc] at an
  cases af:o3 s dn [] with
  |true=>rfl
  |false=>
   rw[show o3 s dn (g8 [])=false from af] at an
   simp only[Bool.and_true]
   cases aB:Nat.beq b9 fO with
   |true=>
    have:=an none (by rw[aB];simp)
    obtain rfl:=Nat.eq_of_beq_eq_true aB
    rw[<-ah];exact this
   |false=>exact an (some h) (by rw[aB];simp)
 |(e,m,ak,jK)::rest,dn,h,b9,ah,hs,an=>by
  simp only[g8]
  rw[yX]
  simp only[uc] at an
  have bg:=HU (ops:=ops) (r:=r) (n:=n) (env:=env) (v:=v) rest (some e) ak jK (hs _ List.mem_cons_self) (λz aT=>hs z (List.mem_cons_of_mem _ aT)) λo a2=>an o (List.mem_append.2 (.inr a2))
  simp only[]
  rw[bg,Bool.and_true]
  cases af:o3 s dn ((e,m,ak)::g8 rest) with
  |true=>rfl
  |false=>
   rw[show o3 s dn (g8 ((e,m,ak,jK)::rest))=false from af] at an
   simp only
   cases aB:Nat.beq b9 fO with
   |true=>
    have:=an none (List.mem_append.2 (.inl (by rw[aB];simp)))
    obtain rfl:=Nat.eq_of_beq_eq_true aB
    rw[<-ah];exact this
   |false=>exact an (some h) (List.mem_append.2 (.inl (by rw[aB];simp)))
theorem CP{ops:Array Oper}{r:aL}{n:Nat}{env:List aA}{dc:List Nat}{Γ:cM}(hm:Mod r (cA Γ)){last:Option Nat}{h:J}{b9:Nat}{aY:lv}{H:Nat->J}(cR:H b9=h)(b5:∀z∈aY,H z.2.2.2=z.2.2.1){K:ct}:∀(l:List DStep),(∀s∈l,s.i<n->ue P need ops s n (aA.bB env) (cA Γ) dc H)->(kf P need ops n env dc Γ last h b9 aY l K).p->jU P need ops r n (aA.bB env) last h (g8 aY) l=true
 |[],_,_=>rfl
 |s::rest,hs,ab=>by
  simp only[jU]
  simp only[kf] at ab
  have xR:=λ(k:(kf P need ops n env dc Γ last h b9 aY rest K).p)=>CP hm cR b5 rest (λz aT=>hs z (List.mem_cons_of_mem _ aT)) k
  split at ab
  · rename_i af gb
    have ae:s.i<n:=by simpa using af
    obtain⟨_,PQ⟩:=hs s List.mem_cons_self ae
    obtain⟨sy,l5⟩:=PQ gb
    rw[af,gb]
    simp only
    split at ab
    · rename_i v fO aB kS
      have HV:nth (n-1-s.i) (aA.bB env)=some v.den:=HC _ _ _ aB
      rw[HV]
      simp only[Option.getD_some]
      have fin:∀(aq:(kf P need ops n env dc Γ last h b9 aY rest K).p),(∀o∈uc s fO last h b9 aY,ku P need ops r n (aA.bB env) s v.den (match o with|none=>H fO|some h=>h)=true)->(jB P need ops r n (aA.bB env) s v.den last h (g8 aY)&&jU P need ops r n (aA.bB env) last h (g8 aY) rest)=true:=λaq a2=>by
       rw[xR aq,Bool.and_true]
       exact HU aY last h b9 cR b5 a2
      split at ab
      · rename_i rM
        exact fin ab λo a2=>by rw[rM] at a2;cases a2
      · split at ab
        ·
         have CQ:dO (fL P need ops r n (aA.bB env) s)=some false->∀ak,ku P need ops r n (aA.bB env) s (aA.den (.v (.aK []))) ak=true:=λhw ak=>by
          unfold ku;rw[hw]
         split at ab
         · rename_i a b CC
           have az:∀(x:aA),kP n env Γ a=some x->fL P need ops r n (aA.bB env) s=some (x.den,b):=λx ab=>by
            have h8:gf n (aA.bB env) (cA Γ) a=some x.den:=by rw[<-tX,ab];rfl
            rw[wF,CC]
            simp only[Option.map_some,tY hm h8]
           split at ab
           · rename_i rU
             exact fin ab λo _=>CQ (by rw[az _ rU];rfl) _
           · rename_i rU
             cases b with
             |false=>exact fin ab λo _=>CQ (by rw[az _ rU];rfl) _
             |true=>cases ab
           · rename_i rU
             cases b with
             |true=>exact fin ab λo _=>CQ (by rw[az _ rU];rfl) _
             |false=>cases ab
           · cases ab
         · cases ab
        · rename_i df
          obtain⟨eK,ab⟩:=HT ab
          obtain⟨ab,PR⟩:=wH _ ab
          have fZ:(λx=>(jJ P need n env Γ s.loc x).den)=λx=>(gf n (aA.bB env) (cA Γ) (cw P need s.loc x)).getD .bad:=funext λx=>CF
          refine fin ab λo a2=>?_
          rcases l5 v.den fO HV kS with e|⟨dt,e⟩
          · have hw:dO (fL P need ops r n (aA.bB env) s)=some false:=by rw[wF];exact e.ok hm
            unfold ku;rw[hw]
          · have hw:dO (fL P need ops r n (aA.bB env) s)=some true:=by rw[wF];exact dt.ok hm
            have look:∀ak,(∃ib,ch P s.o (λx=>(jJ P need n env Γ s.loc x).den) ak=.val v.den ib)->ku P need ops r n (aA.bB env) s v.den ak=true:=λak ⟨ib,e⟩=>by
             have PS:ch P s.o (λx=>dk n (aA.bB env) r (cw P need s.loc x)) ak=.val v.den ib:=by
              rw[<-e,fZ]
              exact vT s.o ak (CG hm sy)
             unfold ku
             simp only[hw,PS]
             exact r_ _ eK
            rw[<-fZ] at e
            cases o with
            |none=>exact look _ e
            |some ak=>
             refine look ak ?_
             cases ah:zh P s.o (jJ P need n env Γ s.loc) with
             |true=>
              obtain⟨aa,e⟩:=e
              exact PO ah e ak
             |false=>exact⟨ak,r9 (PR ah ak a2)⟩
    · cases ab
  · rename_i rR
    have ab:=xR ab
    rw[ab,Bool.and_true]
    cases af:Nat.blt s.i n with
    |false=>rfl
    |true=>
     cases aq:kindOf P s.o.op with
     |pure=>exact absurd aq (rR af)
     |alloc=>rfl
     |dI=>rfl
theorem CR{ops:Array Oper}{n:Nat}{env:List aA}{dc:List Nat}{Γ:cM}{last:Option Nat}{h:J}{b9:Nat}{aY:lv}{K:ct}:∀(l:List DStep),(kf P need ops n env dc Γ last h b9 aY l K).p->K.p
 |[],ab=>ab
 |s::rest,ab=>by
  have bg:(kf P need ops n env dc Γ last h b9 aY rest K).p->K.p:=λk=>CR rest k
  simp only[kf] at ab
  split at ab
  · split at ab
    · split at ab
      · exact bg ab
      · split at ab
        · split at ab
          · split at ab
            · exact bg ab
            · split at ab
              · exact bg ab
              · cases ab
            · split at ab
              · exact bg ab
              · cases ab
            · cases ab
          · cases ab
        · exact bg (wH _ (HT ab).2).1
    · cases ab
  · exact bg ab
def HW(P:Program)(need:Nat)(inR:Bool)(call:aP->List I->J->av)(pl:jt)(g7:Nat)(ops:Array Oper)(Γ:cM)(d:List bA)(q:bt)(h:J)(K:bu->cM->List bA->bt->J->ct):ct:=
 qB P need inR call pl g7 ops h.n (ev ops.toList 0 [] []) [] [] Γ d q (h.room ops.size) 0 []
  (λenv dc Γ d q h b9 aY=>kf P need ops env.length env dc Γ none h b9 aY (ev ops.toList 0 [] []) (md (sv need env.length env Γ (hr ops.toList 0 []) Γ) λΓ=>K .nrm Γ d q h))
  (λv env dc Γ d q h b9 aY=>match aY with
   |(e,m,h0,uf)::aY=>kf P need ops env.length env dc Γ (some e) h0 uf aY (ev ops.toList 0 [] []) (md (wC (hr ops.toList 0 []) Γ) λΓ=>K (.bK v) Γ d q h)
   |[]=>bad "a panic")
def CS(P:Program)(need:Nat)(rd:Option Nat)(call:aP->List I->J->av)(c:Code)(Γ:cM)(d:List bA)(q:bt)(h:J)(K:bu->cM->List bA->bt->J->ct):Prop:=∃e bV bn q' ak,cW P need rd call c ⟨cA Γ,d,q,h⟩ e ⟨cA bV,bn,q',ak⟩/\(K e bV bn q' ak).p
theorem PT{rd:Option Nat}{pl:jt}{g7:Nat}{ops:Array Oper}{Γ:cM}{d:List bA}{q:bt}{h:J}{K:bu->cM->List bA->bt->J->ct}(ab:(HW P need rd.isSome call pl g7 ops Γ d q h K).p):CS P need rd call (.region g7 ops true) Γ d q h K:=by
 have n9:∀(k:Nat) (s:DStep),(ev ops.toList 0 [] [])[k]? =some s->s.i=k:=λk s hs=>by have:=HO _ _ _ _ _ _ hs;omega
 have hQ:lx P need ops [] [] [] Γ (h.room ops.size) 0 [] (λ_=>h.room ops.size):=⟨rfl,λ_ hm=>(by cases hm),λ_ hm=>(by cases hm),rfl,λ_ hm=>(by cases hm)⟩
 rcases sx n9 (ev ops.toList 0 [] []) [] [] [] Γ d q (h.room ops.size) 0 [] _ rfl hQ ab with⟨eF,qD,bV,bn,q',ak,jK,qC,aO,bb,bz,w,dj⟩|⟨v,eF,qD,bV,bn,q',ak,jK,e,m,h0,uf,qp,aO,wG,bb,bz,w,⟨post,a6⟩,dj⟩
 · refine⟨.nrm,_,bn,q',ak,λr hm=>?_,m2 (CR _ dj)⟩
   have aa:=bb r hm
   have ad:=CP (r:=r) (by rw[bz];exact hm) w.cur (λz aT=>(w.st z aT).2) _ (λs hs _=>w.seen s hs) dj
   refine⟨_,?_,CK (by rw[bz];exact hm) _ _ _ (by rw[bz];exact hm)⟩
   have gS:fq P need rd.isSome call ops r h.n (ev ops.toList 0 [] []) [] d q ⟨h.t,h.n+ops.size⟩ []=.ok (aA.bB eF) bn q' ak (g8 qC):=aa
   simp only[da,ra,gS,zi,ad,oF]
 · refine⟨.bK v,_,bn,q',ak,λr hm=>?_,m2 (CR _ dj)⟩
   have aa:=bb r hm
   have PU:∀s∈ev ops.toList 0 [] [],s.i<eF.length->ue P need ops s eF.length (aA.bB eF) (cA bV) qD aO:=λs hs ae=>by
    refine w.seen s ?_
    obtain⟨k,aq,tD⟩:=List.getElem_of_mem hs
    have XI:s.i=k:=n9 k s (by rw[List.getElem?_eq_getElem aq,tD])
    have PV:k<wG.length:=by rw[w.pl];omega
    have:(wG++post)[k]? =some s:=by rw[<-a6,List.getElem?_eq_getElem aq,tD]
    rw[List.getElem?_append_left PV] at this
    exact List.mem_of_getElem? this
   have ad:=CP (r:=r) (by rw[bz];exact hm) w.cur (λz aT=>(w.st z aT).2) _ PU dj
   refine⟨_,?_,CL _ _ _ (by rw[bz];exact hm)⟩
   have gS:fq P need rd.isSome call ops r h.n (ev ops.toList 0 [] []) [] d q ⟨h.t,h.n+ops.size⟩ []=.bK v (aA.bB eF) bn q' ak ((e,m,h0)::g8 qp):=aa
   simp only[da,ra,gS,zi,ad,oF]
end
end aw
namespace aw
open Go
abbrev sA:=bu->cM->List bA->bt->J->ct
def zk(P:Program):List (Nat×iU)->(cM->ct)->ct
 |[],K=>K []
 |(t,s)::l,K=>shape P 9 s λx=>zk P l λΓ=>K ((t,x)::Γ)
def CT(P:Program)(d:List bA)(q:bt)(K:sA)(cE:bu)(cF:ao):List (bu×List (Nat×iU))->ct
 |[]=>bad "loop"
 |[(e,rs)]=>zk P rs λfv=>dE λg:J=>dE λbV:Env=>fk (cE=e) (fk (cF=⟨bV,d,q,g⟩) (fk (cl (cA fv) bV) (K e fv d q g)))
 |(e,rs)::l=>.mk ((zk P rs λfv=>dE λg:J=>dE λbV:Env=>fk (cE=e) (fk (cF=⟨bV,d,q,g⟩) (fk (cl (cA fv) bV) (K e fv d q g)))).p\/(CT P d q K cE cF l).p)
def PW:Operand->Nat
 |.tmp t=>t
 |_=>999
def zl(P:Program)(call:aP->List I->J->av)(fn:Func)(pl:jt)(ff:Nat)(path:List Nat)(Γ:cM)(d:List bA)(q:bt)(h:J)(K:sA):ct:=match sk (4000+ff) pl with
 |some (.gw ins outs)=>.mk (bm P fn call path ⟨ll (cA Γ) ins,d,q,h⟩ λcE cF=>(CT P d q K cE cF outs).p)
 |_=>bad "loop"
def ly(P:Program)(call:aP->List I->J->av)(fn:Func)(need:Nat)(pl:jt):Code->Nat->List Nat->cM->List bA->bt->J->sA->ct
 |.skip,_,_,Γ,d,q,h,K=>K .nrm Γ d q h
 |.label _,_,_,Γ,d,q,h,K=>K .nrm Γ d q h
 |.exit id,_,_,Γ,d,q,h,K=>K (.exit id) Γ d q h
 |.ret,_,_,Γ,d,q,h,K=>K .ret Γ d q h
 |.scope b,ff,p,Γ,d,q,h,K=>ly P call fn need pl b ff (p++[0]) Γ d q h K
 |.region id ops draw,_,_,Γ,d,q,h,K=>match draw with
  |false=>wB P need false call pl id (nB P need ops).steps [] Γ d q h
   (λenv Γ d q h=>md (sv need env.length env Γ (nB P need ops).loc Γ) λΓ=>K .nrm Γ d q h)
   (λv Γ d q h=>md (wC (nB P need ops).loc Γ) λΓ=>K (.bK v) Γ d q h)
  |true=>HW P need false call pl id ops Γ d q h K
 |.seq a b,ff,p,Γ,d,q,h,K=>ly P call fn need pl a ff (p++[0]) Γ d q h λe Γ d q h=>match e with
  |.nrm=>ly P call fn need pl b ff (p++[1]) Γ d q h K
  |e=>K e Γ d q h
 |.cond c a b,ff,p,Γ,d,q,h,K=>match kP 0 [] Γ (cw P need [] c) with
  |none=>bad "if"
  |some s=>s.dz (zb (sk (1000+PW c) pl)) (md (sj (cw P need [] c) .iz Γ) λΓ=>ly P call fn need pl a ff (p++[0]) Γ d q h K) (md (sj (cw P need [] c) .iA Γ) λΓ=>ly P call fn need pl b ff (p++[1]) Γ d q h K)
 |.block id b,_,p,Γ,d,q,h,K=>ly P call fn need pl b id (p++[0]) Γ d q h λe Γ d q h=>match e with
  |.exit i=>match Nat.beq i id with
   |true=>K .nrm Γ d q h
   |false=>K (.exit i) Γ d q h
  |e=>K e Γ d q h
 |.loop _,ff,p,Γ,d,q,h,K=>zl P call fn pl ff p Γ d q h K
 |.rangeFunc _ _ _ _,ff,p,Γ,d,q,h,K=>zl P call fn pl (500+ff) p Γ d q h K
 |_,_,_,_,_,_,_,_=>bad "code"
section
variable {P:Program} {call:aP->List I->J->av} {fn:Func}
theorem CU:∀(l:List (Nat×iU)) {K:cM->ct},(zk P l K).p->∃Γ,(K Γ).p
 |[],K,h=>⟨[],h⟩
 |(t,s)::l,K,h=>by
  obtain⟨x,h⟩:=sr h
  obtain⟨Γ,h⟩:=CU l h
  exact⟨_,h⟩
theorem HX{d:List bA}{q:bt}{K:sA}{cE:bu}{cF:ao}:∀(l:List (bu×List (Nat×iU))),(CT P d q K cE cF l).p->∃fv bV g,cF=⟨bV,d,q,g⟩/\cl (cA fv) bV/\(K cE fv d q g).p
 |[],h=>by cases h
 |[(e,rs)],h=>by
  obtain⟨fv,g,bV,rfl,ad,ar,aM⟩:=CU _ h
  exact⟨fv,bV,g,ad,ar,aM⟩
 |(e,rs)::y::l,h=>by
  rcases h with h|h
  · obtain⟨fv,g,bV,rfl,ad,ar,aM⟩:=CU _ h
    exact⟨fv,bV,g,ad,ar,aM⟩
  · exact HX (y::l) h
theorem zm(Γ:Env):∀l:List Nat,cl (ll Γ l) Γ
 |[]=>trivial
 |t::l=>by
  simp only[ll]
  cases h:eX t Γ with
  |none=>exact zm Γ l
  |some v=>exact⟨h,zm Γ l⟩
theorem HY{pl:jt}{ff:Nat}{p:List Nat}{Γ:cM}{d:List bA}{q:bt}{h:J}{K:sA}(ab:(zl P call fn pl ff p Γ d q h K).p):CS P (dx fn) none call (sub (fm fn) p) Γ d q h K:=by
 unfold zl at ab
 split at ab
 · obtain⟨e,st,ai,bh⟩:=ab
   obtain⟨fv,bV,g,rfl,ar,aM⟩:=HX _ bh
   have aa:cW P (dx fn) none call (sub (fm fn) p) ⟨cA Γ,d,q,h⟩ e ⟨bV,d,q,g⟩:=cW.pre (st1:=⟨cA Γ,d,q,h⟩) ai (zm _ _) rfl rfl rfl
   exact⟨e,fv,d,q,g,cW.post aa ar,aM⟩
 · cases ab
theorem qF{pl:jt}:∀(c:Code) (ff:Nat) (p:List Nat) (Γ:cM) (d:List bA) (q:bt) (h:J) (K:sA),sub (fm fn) p=c->(ly P call fn (dx fn) pl c ff p Γ d q h K).p->CS P (dx fn) none call c Γ d q h K
 |.skip,ff,p,Γ,d,q,h,K,ag,ab=>⟨.nrm,Γ,d,q,h,λr ai=>⟨r,rfl,ai⟩,ab⟩
 |.label _,ff,p,Γ,d,q,h,K,ag,ab=>⟨.nrm,Γ,d,q,h,λr ai=>⟨r,rfl,ai⟩,ab⟩
 |.exit id,ff,p,Γ,d,q,h,K,ag,ab=>⟨.exit id,Γ,d,q,h,λr ai=>⟨r,rfl,ai⟩,ab⟩
 |.ret,ff,p,Γ,d,q,h,K,ag,ab=>⟨.ret,Γ,d,q,h,λr ai=>⟨r,rfl,ai⟩,ab⟩
 |.scope b,ff,p,Γ,d,q,h,K,ag,ab=>qF b ff (p++[0]) Γ d q h K (by rw[jr,ag];simp[sub]) ab
 |.region id ops draw,ff,p,Γ,d,q,h,K,ag,ab=>by
  simp only[ly] at ab
  cases draw with
  |true=>exact PT ab
  |false=>
   rcases CJ _ _ _ _ _ _ ab with⟨eF,bV,bn,q',ak,bb,bz,dj⟩|⟨v,bV,bn,q',ak,bb,bz,dj⟩
   · refine⟨.nrm,_,bn,q',ak,λr ai=>⟨_,?_,CK (by rw[bz];exact ai) _ _ _ (by rw[bz];exact ai)⟩,m2 dj⟩
     have aa:iL P (dx fn) false call r (nB P (dx fn) ops).steps [] d q h=.ok (aA.bB eF) bn q' ak:=bb r ai
     simp only[da,Option.isSome_none,aa,oF,zi]
   · refine⟨.bK v,_,bn,q',ak,λr ai=>⟨_,?_,CL _ _ _ (by rw[bz];exact ai)⟩,m2 dj⟩
     have aa:iL P (dx fn) false call r (nB P (dx fn) ops).steps [] d q h=.bK v bn q' ak:=bb r ai
     simp only[da,Option.isSome_none,aa,oF]
 |.seq a b,ff,p,Γ,d,q,h,K,ag,ab=>by
  obtain⟨e,fK,d1,aR,aa,r1,bG⟩:=qF a ff (p++[0]) Γ d q h _ (by rw[jr,ag];simp[sub]) ab
  by_cases he:e=.nrm
  · subst he
    obtain⟨ax,g6,d2,a3,ad,r2,bF⟩:=qF b ff (p++[1]) fK d1 aR aa K (by rw[jr,ag];simp[sub]) bG
    refine⟨ax,g6,d2,a3,ad,λr ai=>?_,bF⟩
    obtain⟨lz,fJ,lA⟩:=r1 r ai
    obtain⟨PX,ui,PY⟩:=r2 lz lA
    exact⟨PX,by simp only at fJ ui;simp only[da,fJ,oG,ui],PY⟩
  · refine⟨e,fK,d1,aR,aa,λr ai=>?_,by cases e<;>first|exact absurd rfl he|exact bG⟩
    obtain⟨lz,fJ,lA⟩:=r1 r ai
    exact⟨lz,by simp only[da,fJ];exact rK he,lA⟩
 |.cond c a b,ff,p,Γ,d,q,h,K,ag,ab=>by
  simp only[ly] at ab
  split at ab
  · cases ab
  · rename_i s hs
    have h8:gf 0 [] (cA Γ) (cw P (dx fn) [] c)=some s.den:=by rw[show([]:List I)=aA.bB [] from rfl,<-tX,hs];rfl
    obtain⟨af,aU⟩:=ze _ ab
    have az:=aA.n5 af
    rcases aU with⟨aQ,aq⟩|⟨aQ,aq⟩
    · rw[aQ] at az
      obtain⟨_,ax,_⟩:=tZ (x:=.iz) hs az
      obtain⟨e,fK,d1,aR,aa,r1,bG⟩:=qF a ff (p++[0]) _ d q h K (by rw[jr,ag];simp[sub]) (m2 aq)
      refine⟨e,fK,d1,aR,aa,λr ai=>?_,bG⟩
      obtain⟨lz,fJ,lA⟩:=r1 r (by rw[ax];exact ai)
      exact⟨lz,by simp only at fJ;simp only[da,tY ai h8,az,fJ],lA⟩
    · rw[aQ] at az
      obtain⟨_,ax,_⟩:=tZ (x:=.iA) hs az
      obtain⟨e,fK,d1,aR,aa,r1,bG⟩:=qF b ff (p++[1]) _ d q h K (by rw[jr,ag];simp[sub]) (m2 aq)
      refine⟨e,fK,d1,aR,aa,λr ai=>?_,bG⟩
      obtain⟨lz,fJ,lA⟩:=r1 r (by rw[ax];exact ai)
      exact⟨lz,by simp only at fJ;simp only[da,tY ai h8,az,fJ],lA⟩
 |.block id b,ff,p,Γ,d,q,h,K,ag,ab=>by
  obtain⟨e,fK,d1,aR,aa,r1,bG⟩:=qF b id (p++[0]) Γ d q h _ (by rw[jr,ag];simp[sub]) ab
  cases e with
  |exit i=>
   simp only at bG
   cases ae:Nat.beq i id with
   |true=>
    rw[ae] at bG
    obtain rfl:=Nat.eq_of_beq_eq_true ae
    exact⟨.nrm,fK,d1,aR,aa,λr ai=>by
     obtain⟨lz,fJ,lA⟩:=r1 r ai
     exact⟨lz,by simp only at fJ;simp only[da,fJ,if_true],lA⟩,bG⟩
   |false=>
    rw[ae] at bG
    have df:¬i=id:=by intro cx;subst cx;simp at ae
    exact⟨.exit i,fK,d1,aR,aa,λr ai=>by
     obtain⟨lz,fJ,lA⟩:=r1 r ai
     exact⟨lz,by simp only at fJ;simp only[da,fJ,if_neg df],lA⟩,bG⟩
  |_=>
   exact⟨_,fK,d1,aR,aa,λr ai=>by
    obtain⟨lz,fJ,lA⟩:=r1 r ai
    exact⟨lz,by simp only at fJ;simp only[da,fJ],lA⟩,bG⟩
 |.loop b,ff,p,Γ,d,q,h,K,ag,ab=>by
  have:=HY ab;rw[ag] at this;exact this
 |.rangeFunc f ps as b6,ff,p,Γ,d,q,h,K,ag,ab=>by
  have:=HY ab;rw[ag] at this;exact this
 |.goto _,ff,p,Γ,d,q,h,K,ag,ab=>by simp only[ly] at ab;cases ab
 |.refuse _,ff,p,Γ,d,q,h,K,ag,ab=>by simp only[ly] at ab;cases ab
def HZ(P:Program)(fn:Func)(call:aP->List I->J->av)(pl:jt)(bZ:List Nat)(path:List Nat)(Γ:cM)(d:List bA)(q:bt)(h:J)(Q:bu->ao->Prop):Prop:=
 (ly P call fn (dx fn) pl (sub (fm fn) path) 0 path Γ d q h λe Γ d q h=>.mk (Q e ⟨ll (cA Γ) bZ,d,q,h⟩)).p
theorem e9(pl:jt)(bZ:List Nat)(Γ:cM){bV:Env}{path:List Nat}{d:List bA}{q:bt}{h:J}{Q:bu->ao->Prop}(cG:cA Γ=bV)(H:HZ P fn call pl bZ path Γ d q h Q):bm P fn call path ⟨bV,d,q,h⟩ Q:=by
 subst cG
 obtain⟨e,fK,d1,aR,aa,r1,bG⟩:=qF _ 0 path Γ d q h _ rfl H
 exact⟨e,_,cW.post r1 (zm _ bZ),bG⟩
def H0(P:Program)(fn:Func)(R:av->Prop):sA:=λe Γ d q h=>match d with
 |[]=>match e with
  |.bK v=>.mk (R (.bK v h))
  |.ret|.nrm=>match m1 P (dx fn) fn (cA Γ) h with
   |some v=>.mk (R (.ret v h))
   |none=>bad "results"
  |_=>bad "end"
 |_=>bad "deferred"
def H2(P:Program)(fn:Func)(call:aP->List I->J->av)(pl:jt)(Γ:cM)(h:J)(R:av->Prop):Prop:=
 (ly P call fn (dx fn) pl (fm fn) 0 [] Γ [] .none h (H0 P fn R)).p
theorem dd{intr:Nat->List I->J->Option (I×J)}{f n:Nat}{args:List I}{h:J}{R:av->Prop}(pl:jt)(Γ:cM)(hf:P.funcs[f]? =some fn)(af:fn.body.isSome=true)(ae:intr f args h=none)(hle:Nat.ble args.length fn.ntmps=true)(cG:cA Γ=m0 0 args)(H:H2 P fn (e4 P intr n) pl Γ h R):R (e4 P intr (n+1) (.fn f) args h):=by
 refine Hz hf af ae hle (Q:=λe s=>s.d=[]/\((∃v,e=.bK v/\R (.bK v s.h))\/((e=.ret\/e=.nrm)/\∃v,m1 P (dx fn) fn s.Γ s.h=some v/\R (.ret v s.h)))) ?_ λe s bh=>?_
 · have hs:sub (fm fn) []=fm fn:=by cases fm fn<;>rfl
   obtain⟨e,fK,d1,aR,aa,r1,bG⟩:=qF (fm fn) 0 [] Γ [] .none h _ hs H
   rw[cG] at r1
   refine⟨e,⟨cA fK,d1,aR,aa⟩,by unfold aV;rw[hs];exact r1,?_⟩
   unfold H0 at bG
   split at bG
   · refine⟨rfl,?_⟩
     split at bG
     · exact .inl ⟨_,rfl,bG⟩
     · split at bG
       · rename_i v aB;exact .inr ⟨.inl rfl,v,aB,bG⟩
       · cases bG
     · split at bG
       · rename_i v aB;exact .inr ⟨.inr rfl,v,aB,bG⟩
       · cases bG
     · cases bG
   · cases bG
 · obtain⟨az,bh⟩:=bh
   rcases bh with⟨v,rfl,ai⟩|⟨he,v,aB,ai⟩
   · exact .inr ⟨v,rfl,az,ai⟩
   · exact .inl ⟨he,az,v,aB,ai⟩
end
attribute [irreducible] HZ H2
end aw
