/-
  PROVED HERE: contracts of functions (Tx). No condition beside each statement's own.
-/
import Derived.Test.YtlelojncabdnoaaDoorSxb
set_option linter.unusedVariables false
set_option linter.unusedSimpArgs false
namespace aS
open Go
inductive Stop(h6:String):Prop
inductive cq where
 |mk (p:Prop)
def cq.p:cq->Prop
 |.mk p=>p
abbrev bad(w:String):cq:=.mk (Stop w)
abbrev e7(p:Prop)(k:cq):cq:=.mk (p/\k.p)
abbrev fJ{α:Type}(f:α->cq):cq:=.mk (∃x:α,(f x).p)
abbrev wy(c c':Prop)(a b:cq):cq:=.mk ((c->a.p)/\(c'->b.p))
inductive aw where
 |v (a:I)
 |o (a:I)
 |fj|et
 |lt (i n:Nat)|le (i n:Nat)|eq (i n:Nat)
 |br (s:aw)
 |c6 (l:List aw)
 |dw (l:List aw)
def aw.jQ:aw->Bool
 |.fj=>true
 |.et=>false
 |.lt i n=>eC (.ofNat i) (.ofNat n)
 |.le i n=>hp (.ofNat i) (.ofNat n)
 |.eq i n=>dP (.ofNat i) (.ofNat n)
 |.br s=>!s.jQ
 |.v (.bool b)=>b
 |_=>false
def aw.sb:aw->Bool
 |.fj|.et|.lt _ _|.le _ _|.eq _ _|.br _=>true
 |.v (.bool _)=>true
 |_=>false
mutual
def aw.den:aw->I
 |.v a=>a
 |.o a=>a
 |.fj=>.bool true
 |.et=>.bool false
 |.lt i n=>.bool (eC (.ofNat i) (.ofNat n))
 |.le i n=>.bool (hp (.ofNat i) (.ofNat n))
 |.eq i n=>.bool (dP (.ofNat i) (.ofNat n))
 |.br s=>.bool (!s.jQ)
 |.c6 l=>.agg (aw.bE l)
 |.dw l=>.aF (aw.bE l)
def aw.bE:List aw->List I
 |[]=>[]
 |s::l=>s.den::aw.bE l
end
def kI:I->aw
 |.bool true=>.fj
 |.bool false=>.et
 |v=>.v v
abbrev cz:=List (Nat×aw)
def cd:cz->Env
 |[]=>[]
 |(t,s)::l=>(t,s.den)::cd l
def sc(t:Nat):cz->Option aw
 |[]=>none
 |(u,s)::l=>match Nat.beq t u with
  |true=>some s
  |false=>sc t l
def sd:Nat->List aw->Option aw
 |_,[]=>none
 |0,s::_=>some s
 |n+1,_::l=>sd n l
def se:Nat->aw->List aw->List aw
 |_,_,[]=>[]
 |0,x,_::l=>x::l
 |n+1,x,s::l=>s::se n x l
def sf(t:Nat)(x:aw):cz->cz
 |[]=>[]
 |(u,s)::l=>match Nat.beq t u with
  |true=>(u,x)::l
  |false=>(u,s)::sf t x l
def jw(m:Nat)(env:List aw)(Γ:cz):Acc->Option aw
 |.env j=>match Nat.blt j m with
  |true=>sd (m-1-j) env
  |false=>none
 |.jo p=>sc p.num Γ
 |.val v=>some (kI v)
def tZ(m:Nat)(a:Acc)(b:aw)(env:List aw):List aw:=match a with
 |.env j=>se (m-1-j) b env
 |_=>env
def sg(a:Acc)(b:aw)(Γ:cz):cz:=match a with
 |.jo p=>sf p.num b Γ
 |_=>Γ
def aw.lo(s:aw)(K:aw->cq):cq:=match s with
 |.v a=>K (.v a)
 |.o a=>K (.o a)
 |.fj=>K .fj
 |.et=>K .et
 |.lt i n=>K (.lt i n)
 |.le i n=>K (.le i n)
 |.eq i n=>K (.eq i n)
 |.br s=>K (.br s)
 |.c6 l=>K (.c6 l)
 |.dw l=>K (.dw l)
def qw:List aw->(List aw->cq)->cq
 |[],K=>K []
 |s::l,K=>s.lo λs=>qw l λl=>K (s::l)
def mI:cz->(cz->cq)->cq
 |[],K=>K []
 |(t,s)::l,K=>s.lo λs=>mI l λl=>K ((t,s)::l)
inductive jx where
 |ty (t:TypeId)
 |is (v:I)|io (v:I)
 |z (k:IntKind)
 |n (k:IntKind)
 |o
 |p|He
 |st|b
 |nq|jR (c:cb)
 |dw (l:List jx)|c6 (l:List jx)
 |Hf (t:TypeId) (s:jx)
 |fn (f:Nat) (k:Nat)
inductive oi where
 |aY (s:jx)
 |t|f
 |p (s:jx)
 |e (r:Option jx) (s:jx)
 |hM (ins:List Nat) (outs:List (aU×List (Nat×jx)))
def Cm:List aw->List aw
 |[]=>[]
 |.c6 l::r=>l++Cm r
 |s::r=>s::Cm r
abbrev ik:=List (Nat×oi)
def sh(k:Nat):ik->Option oi
 |[]=>none
 |(j,o)::l=>match Nat.beq k j with
  |true=>some o
  |false=>sh k l
mutual
def shape(P:Program):Nat->jx->(aw->cq)->cq
 |0,_,_=>bad "shape"
 |n+1,s,K=>match s with
  |.is v=>K (kI v)
  |.io v=>K (.o v)
  |.z k=>fJ λx:Int=>K (.o (.int k x))
  |.n k=>fJ λx:Nat=>K (.v (.int k (.ofNat x)))
  |.o=>fJ λx:I=>K (.o x)
  |.p=>fJ λx:Nat=>K (.v (.ptr x 0))
  |.He=>fJ λx:Nat=>fJ λy:Nat=>K (.v (.ptr x y))
  |.st=>fJ λx:List UInt8=>K (.v (.str x))
  |.b=>fJ λx:Bool=>K (.v (.bool x))
  |.nq=>fJ λx:Nat=>fJ λy:Nat=>fJ λz:Nat=>fJ λc:cb=>K (.v (.slice x y z c))
  |.jR c=>fJ λx:Nat=>fJ λz:Nat=>K (.v (.slice x 0 z c))
  |.dw l=>qx P n l λr=>K (.dw r)
  |.c6 l=>qx P n l λr=>K (.c6 r)
  |.Hf t s=>shape P n s λx=>K (.v (.iface t x.den))
  |.fn f k=>fJ λx:List I=>K (.v (.fn f [] x))
  |.ty t=>match P.underlying t with
   |some .bool=>fJ λx:Bool=>K (.v (.bool x))
   |some (.int k)=>fJ λx:Nat=>K (.v (.int k (.ofNat x)))
   |some .string=>fJ λx:List UInt8=>K (.v (.str x))
   |some (.pointer _)=>fJ λx:Nat=>K (.v (.ptr x 0))
   |some (.struct ax)=>qx P n (ax.toList.map λf=>.ty f.type) λr=>K (.c6 (Cm r))
   |some (.tuple ts)=>qx P n (ts.toList.map .ty) λr=>K (.dw r)
   |some .invalid=>K (.v (.aF []))
   |some _=>fJ λx:I=>K (.o x)
   |none=>K (.v (.aF []))
def qx(P:Program):Nat->List jx->(List aw->cq)->cq
 |0,_,_=>bad "shapes"
 |n+1,l,K=>match l with
  |[]=>K []
  |s::l=>shape P n s λx=>qx P n l λr=>K (x::r)
end
def aw.oj(dY:Option Bool)(A B:cq):aw->cq
 |.fj=>A
 |.et=>B
 |.lt i n=>match dY with
  |none=>wy (i<n) (¬i<n) A B
  |some true=>e7 (i<n) A
  |some false=>e7 (¬i<n) B
 |.le i n=>match dY with
  |none=>wy (i<=n) (¬i<=n) A B
  |some true=>e7 (i<=n) A
  |some false=>e7 (¬i<=n) B
 |.eq i n=>match dY with
  |none=>wy (i=n) (¬i=n) A B
  |some true=>e7 (i=n) A
  |some false=>e7 (¬i=n) B
 |.br s=>s.oj (match dY with|none=>none|some b=>some (!b)) B A
 |.v (.bool x)=>match dY with
  |none=>wy (x=true) (x=false) A B
  |some true=>e7 (x=true) A
  |some false=>e7 (x=false) B
 |_=>bad "choice"
def y_(o:Option oi):Option Bool:=match o with
 |some .t=>some true
 |some .f=>some false
 |_=>none
def Cn(o:Option oi)(t:TypeId):jx:=match o with
 |some (.aY s)=>s
 |_=>.ty t
def Co(op:BinOp)(x y:aw):Option aw:=match x,y with
 |.v (.int k (.ofNat a)),.v (.int gA (.ofNat b))=>match decide (k=gA) with
  |true=>match op with
   |.lss=>some (.lt a b)
   |.leq=>some (.le a b)
   |.gtr=>some (.lt b a)
   |.geq=>some (.le b a)
   |.eql=>some (.eq a b)
   |.neq=>some (.br (.eq a b))
   |_=>none
  |false=>none
 |_,_=>none
def Cp(op:BinOp)(x y:aw):Option (Prop×I):=match x,y with
 |.v (.int k (.ofNat a)),.v (.int gA (.ofNat b))=>match decide (k=gA),op,k with
  |true,.add,.i64=>some (a+b<9223372036854775808,.int .i64 (.ofNat (a+b)))
  |true,.sub,.i64=>some (b<=a/\a<9223372036854775808,.int .i64 (.ofNat (a-b)))
  |true,.mul,.i64=>some (a*b<9223372036854775808,.int .i64 (.ofNat (a*b)))
  |true,.add,.u64=>some (a+b<18446744073709551616,.int .u64 (.ofNat (a+b)))
  |true,.sub,.u64=>some (b<=a/\a<18446744073709551616,.int .u64 (.ofNat (a-b)))
  |_,_,_=>none
 |.v (.str a),.v (.str b)=>match op with
  |.add=>some (a.length+b.length<=1000000000000,.str (a++b))
  |_=>none
 |_,_=>none
def si:aw->List I
 |.o a=>[a]
 |s=>s.den.cells
def sj:List aw->cq->cq
 |[],K=>K
 |.o a::l,K=>e7 (a.ca=true) (sj l K)
 |_::l,K=>sj l K
def sk:List aw->Bool
 |[]=>true
 |.o _::l=>sk l
 |s::l=>s.den.ca&&sk l
def t_(s:aw)(K:cq):cq:=match s with
 |.o a=>e7 (a.ca=true) K
 |.c6 l=>match sk l with
  |true=>sj l K
  |false=>bad "cells"
 |s=>match s.den.cells.all I.ca with
  |true=>K
  |false=>bad "cells"
def l5:aw->List aw
 |.c6 l=>l
 |.v (.agg cs)=>cs.map kI
 |s=>[s]
def aw.Cq:aw->Bool
 |.o _=>true
 |_=>false
def sl(place:Nat->Option (Nat×Nat)):List aw->List (Nat×aw)->Option (List aw)
 |cells,[]=>some cells
 |cells,(i,s)::rest=>match place i with
  |none=>none
  |some (off,size)=>match Nat.beq (l5 s).length size&&Nat.ble (off+size) cells.length with
   |true=>sl place (cells.take off++l5 s++(cells.drop off).drop (l5 s).length) rest
   |false=>none
def mJ:List (Nat×aw)->List aw
 |[]=>[]
 |(_,s)::l=>l5 s++mJ l
def za(P:Program)(t:TypeId)(len:Nat)(ps:List (Nat×aw))(K:TypeId->List aw->cq):cq:=match P.underlying t with
 |some (.slice e)=>match cQ P e,ek P e with
  |some sz,some z=>match Nat.ble (len*sz) 16777216&&Nat.beq z.cells.length sz,(if len*sz=0 then[] else fN len z.cells).all I.ca,sl (λi=>some (i*sz,sz)) ((if len*sz=0 then[] else fN len z.cells).map kI) ps,sk (mJ ps) with
   |true,true,some cs,true=>sj (mJ ps) (qw cs λcs=>K e cs)
   |_,_,_,_=>bad "buildSlice"
  |_,_=>bad "buildSlice"
 |_=>bad "buildSlice"
def qy(a b:Bool):Bool:=a==b
def Cr(P:Program)(op:BinOp)(t:TypeId)(x y:aw):Option aw:=match x.sb&&y.sb,P.underlying t,op with
 |true,some .bool,.eql=>some (.v (.bool (qy x.jQ y.jQ)))
 |true,some .bool,.neq=>some (.br (.v (.bool (qy x.jQ y.jQ))))
 |_,_,_=>none
def OS(x y:aw):Bool:=match x,y with
 |.v (.ptr _ _),.v .c_|.v .c_,.v .c_|.v (.slice _ _ _ _),.v .bn|.v .bn,.v .bn|.v (.iface _ _),.v .ej|.v .ej,.v .ej=>true
 |_,_=>false
section
variable (P:Program) (inR:Bool) (call:cJ)
abbrev om:=aw->List bw->az->J->cq
abbrev oo:=I->List bw->az->J->cq
def zb(dY:Option oi)(t:TypeId)(f:cR)(args:List I)(d:List bw)(q:az)(h:J)(K:om)(dh:oo):cq:=match dY with
 |some (.p s)=>shape P 14 s λx=>fJ λg:J=>e7 (call f args h=.bu x.den g) (dh x.den d q g)
 |some (.e r s)=>.mk ((shape P 14 (match r with|some r=>r|none=>.ty t) λx=>fJ λg:J=>e7 (call f args h=.ret x.den g) (K x d q g)).p\/(shape P 9 s λx=>fJ λg:J=>e7 (call f args h=.bu x.den g) (dh x.den d q g)).p)
 |dY=>shape P 14 (Cn dY t) λx=>fJ λg:J=>e7 (call f args h=.ret x.den g) (K x d q g)
def pd(dY:Option oi)(o:Oper)(g:Operand->aw)(d:List bw)(q:az)(h:J)(K:om)(dh:oo):cq:=
 match BS o (λx=>(g x).den) with
 |0=>match b6 P o (λx=>(g x).den) h with
  |.val v ah=>match dY with
   |some (.aY .o)=>K (.o v) d q ah
   |_=>K (.v v) d q ah
  |.bu v ah=>dh v d q ah
  |.call f args ah=>zb P call dY o.type (.fn f) args d q ah K dh
  |.b7 l args ah=>zb P call dY o.type (.b7 l) args d q ah K dh
  |.mf x=>match inR with
   |true=>bad "defer"
   |false=>K (.v (.aF [])) (x::d) q h
  |.qY=>match inR with
   |true=>bad "recover"
   |false=>match q with
    |.none=>K (.v .ej) d .none h
    |.done v=>K (.v .ej) d (.done v) h
    |.act v=>K (.v v) d (.done v) h
  |.fail w=>bad w
 |1=>shape P 14 (Cn dY o.type) λx=>e7 (j_ P o (λy=>(g y).den) h x.den) (K x d q h)
 |_=>shape P 14 (Cn dY o.type) λx=>fJ λah:J=>e7 (tM P o (λy=>(g y).den) h x.den ah) (K x d q ah)
def Cs(dY:Option oi)(o:Oper)(g:Operand->aw)(d:List bw)(q:az)(h:J)(K:om)(dh:oo):cq:=match o.op with
 |.move x|.assign x=>(g x).lo λs=>K s d q h
 |.unOp .not _ x=>match(g x).sb with
  |true=>(g x).lo λs=>K (.br s) d q h
  |false=>bad "not"
 |.binOp op t x y _=>(g x).lo λu=>(g y).lo λw=>match(match Co op u w with|some s=>some s|none=>Cr P op t u w) with
  |some s=>K s d q h
  |none=>match OS u w with
   |true=>match ec P h op t x y u.den w.den with
    |some v=>(kI v).lo λs=>K s d q h
    |none=>bad "nil"
   |false=>match(match dY with|none=>Cp op u w|some _=>none) with
    |some (p,v)=>e7 p (K (.v v) d q h)
    |none=>pd P inR call dY o g d q h K dh
 |.extract x i=>match g x with
  |.dw l=>match sd i l with
   |some s=>s.lo λs=>K s d q h
   |none=>bad "extract"
  |_=>pd P inR call dY o g d q h K dh
 |.indexAddr t x i=>match P.underlying t,g x,eT (g i).den with
  |some (.array m e),.v (.ptr b off),some n=>match cQ P e with
   |some sz=>e7 (n<m) (K (.v (.ptr b (off+n*sz))) d q h)
   |none=>bad "indexAddr"
  |some (.slice e),.v (.slice b off m c),some n=>match cQ P e with
   |some sz=>e7 (n<m) (K (.v (.ptr b (off+n*sz))) d q h)
   |none=>bad "indexAddr"
  |_,_,_=>bad "indexAddr of what"
 |.store t a x=>match(g a).den,cQ P t with
  |.ptr b off,some n=>match Nat.beq (si (g x)).length n with
   |true=>(g x).lo λs=>t_ s (fJ λct:J=>e7 (storeCells h b off (si s)=some ct) (K (.v (.aF [])) d q ct))
   |false=>bad "store size"
  |_,_=>bad "store"
 |.build t parts=>match(mJ (parts.toList.map λp=>(p.1,g p.2))).any aw.Cq with
  |false=>pd P inR call dY o g d q h K dh
  |true=>match ek P t,P.underlying t with
   |some z,some (.struct ax)=>match ax.toList.all (λf=>(cQ P f.type).isSome),sl (λi=>(ax[i]?).map λf=>(f.offset,P.cellsOf f.type)) (z.cells.map kI) (parts.toList.map λp=>(p.1,g p.2)),sk (mJ (parts.toList.map λp=>(p.1,g p.2))) with
    |true,some cs,true=>sj (mJ (parts.toList.map λp=>(p.1,g p.2))) (qw cs λcs=>K (.c6 cs) d q h)
    |_,_,_=>bad "build"
   |_,_=>bad "build of what"
 |.buildSlice t len parts=>match(mJ (parts.toList.map λp=>(p.1,g p.2))).any aw.Cq with
  |false=>pd P inR call dY o g d q h K dh
  |true=>za P t len (parts.toList.map λp=>(p.1,g p.2)) λe cs=>K (.v (.slice h.n 0 len (.exact len))) d q (h.push (.cells (aw.bE cs) e .own 0 0))
 |.box e x=>(g x).lo λs=>t_ s (K (.v (.ptr h.n 0)) d q (h.push (.cells (si s) e .own 0 0)))
 |.call c=>match c.callee with
  |.builtin .len=>match c.args.toList.map g,c.argTypes[0]? with
   |[.o a],some t=>fJ λn:Nat=>e7 (fO P h t a=some (.int .i64 (.ofNat n))) (K (.v (.int .i64 (.ofNat n))) d q h)
   |_,_=>pd P inR call dY o g d q h K dh
  |_=>pd P inR call dY o g d q h K dh
 |_=>pd P inR call dY o g d q h K dh
end
theorem aw.oq{s:aw}(h:s.sb=true):s.den=.bool s.jQ:=by
 cases s with
 |v a=>cases a<;>first|rfl|cases h
 |o a=>cases h
 |c6 l=>cases h
 |dw l=>cases h
 |fj=>rfl
 |et=>rfl
 |lt i n=>rfl
 |le i n=>rfl
 |eq i n=>rfl
 |br s=>rfl
theorem wz(a:I):(kI a).den=a:=by
 unfold kI;split<;>rfl
theorem Ct:∀(n:Nat) (l:List aw),(sd n l).map aw.den=nth n (aw.bE l)
 |0,[]=>rfl
 |_+1,[]=>rfl
 |0,x::l=>rfl
 |n+1,x::l=>Ct n l
theorem Hg(n:Nat)(l:List aw)(s:aw)(h:sd n l=some s):nth n (aw.bE l)=some s.den:=by
 rw[<-Ct,h];rfl
theorem Hh(t:Nat):∀Γ:cz,(sc t Γ).map aw.den=c4 t (cd Γ)
 |[]=>rfl
 |(u,x)::l=>by
  simp only[sc,cd,c4]
  cases ae:Nat.beq t u with
  |true=>rfl
  |false=>exact Hh t l
def gi(m:Nat)(l:List I)(G:Env):Acc->Option I
 |.env j=>match Nat.blt j m with
  |true=>nth (m-1-j) l
  |false=>none
 |.jo p=>c4 p.num G
 |.val v=>some v
theorem sm(m:Nat)(env:List aw)(Γ:cz)(a:Acc):(jw m env Γ a).map aw.den=gi m (aw.bE env) (cd Γ) a:=by
 cases a with
 |env j=>
  simp only[jw,gi]
  cases Nat.blt j m with
  |true=>exact Ct _ _
  |false=>rfl
 |jo p=>exact Hh _ _
 |val v=>simp only[jw,gi,Option.map_some,wz]
theorem sn{m:Nat}{l:List I}{G:Env}{r:aN}(hm:Mod r G){a:Acc}{v:I}(h:gi m l G a=some v):cv m l r a=v:=by
 cases a with
 |env j=>
  simp only[gi] at h
  split at h
  · simp only[cv,h,Option.getD_some]
  · cases h
 |jo p=>simp only[gi] at h;simp only[cv];rw[<-GB p];exact hm _ _ h
 |val x=>cases h;rfl
theorem wA{m:Nat}{l:List I}{G:Env}{a:Acc}{v:I}(x:I)(h:gi m l G a=some v):gi (m+1) (x::l) G a=some v:=by
 cases a with
 |env j=>
  simp only[gi] at h⊢
  split at h
  · rename_i ae
    have aG:j<m:=by simpa using ae
    have ev:Nat.blt j (m+1)=true:=by simp;omega
    rw[ev]
    have:m+1-1-j=(m-1-j)+1:=by omega
    rw[this];exact h
  · cases h
 |jo p=>exact h
 |val x=>exact h
theorem Hi(x:aw):∀(n:Nat) (l:List aw),(∀s,sd n l=some s->s.den=x.den)->aw.bE (se n x l)=aw.bE l
 |0,[],_=>rfl
 |_+1,[],_=>rfl
 |0,s::l,h=>by simp only[se,aw.bE,h s rfl]
 |n+1,s::l,h=>by simp only[se,aw.bE];rw[Hi x n l h]
theorem Hj(x:aw):∀(n:Nat) (l:List aw),(se n x l).length=l.length
 |0,[]=>rfl
 |_+1,[]=>rfl
 |0,s::l=>rfl
 |n+1,s::l=>by simp only[se,List.length_cons,Hj x n l]
theorem Hk(t:Nat)(x:aw):∀Γ:cz,(∀s,sc t Γ=some s->s.den=x.den)->cd (sf t x Γ)=cd Γ
 |[],_=>rfl
 |(u,s)::l,h=>by
  simp only[sf]
  simp only[sc] at h
  cases ae:Nat.beq t u with
  |true=>rw[ae] at h;simp only[cd,h s rfl]
  |false=>rw[ae] at h;simp only[cd];rw[Hk t x l h]
theorem ua{m:Nat}{env:List aw}{Γ:cz}{a:Acc}{s x:aw}(h:jw m env Γ a=some s)(e:s.den=x.den):aw.bE (tZ m a x env)=aw.bE env/\cd (sg a x Γ)=cd Γ/\(tZ m a x env).length=env.length:=by
 cases a with
 |env j=>
  simp only[jw] at h
  split at h
  · exact⟨Hi x _ _ λaV ad=>by rw[h] at ad;cases ad;exact e,rfl,Hj _ _ _⟩
  · cases h
 |jo p=>exact⟨rfl,Hk _ _ _ λaV ad=>by rw[show sc p.num Γ=some s from h] at ad;cases ad;exact e,rfl⟩
 |val v=>exact⟨rfl,rfl,rfl⟩
theorem aw.lp{s:aw}{K:aw->cq}(h:(s.lo K).p):(K s).p:=by cases s<;>exact h
theorem so:∀{l:List aw} {K:List aw->cq},(qw l K).p->(K l).p
 |[],_,h=>h
 |s::l,K,h=>so (l:=l) (aw.lp h)
theorem nH:∀{l:cz} {K:cz->cq},(mI l K).p->(K l).p
 |[],_,h=>h
 |(t,s)::l,K,h=>nH (l:=l) (aw.lp h)
theorem Hl{P:Program}:∀(n:Nat),(∀(s:jx) (K:aw->cq),(shape P n s K).p->∃x,(K x).p)/\(∀(l:List jx) (K:List aw->cq),(qx P n l K).p->∃x,(K x).p)
 |0=>⟨λs K h=>(by simp only[shape] at h;cases h),λl K h=>(by simp only[qx] at h;cases h)⟩
 |n+1=>by
  obtain⟨h1,aa⟩:=Hl (P:=P) n
  refine⟨λs K h=>?_,λl K h=>?_⟩
  · simp only[shape] at h
    cases s with
    |is v=>exact⟨_,h⟩
    |io v=>exact⟨_,h⟩
    |z k=>obtain⟨x,h⟩:=h;exact⟨_,h⟩
    |n k=>obtain⟨x,h⟩:=h;exact⟨_,h⟩
    |o=>obtain⟨x,h⟩:=h;exact⟨_,h⟩
    |p=>obtain⟨x,h⟩:=h;exact⟨_,h⟩
    |He=>obtain⟨x,y,h⟩:=h;exact⟨_,h⟩
    |st=>obtain⟨x,h⟩:=h;exact⟨_,h⟩
    |b=>obtain⟨x,h⟩:=h;exact⟨_,h⟩
    |nq=>obtain⟨x,y,z,c,h⟩:=h;exact⟨_,h⟩
    |jR c=>obtain⟨x,z,h⟩:=h;exact⟨_,h⟩
    |dw l=>obtain⟨r,h⟩:=aa _ _ h;exact⟨_,h⟩
    |c6 l=>obtain⟨r,h⟩:=aa _ _ h;exact⟨_,h⟩
    |Hf t s=>obtain⟨r,h⟩:=h1 _ _ h;exact⟨_,h⟩
    |fn f k=>obtain⟨x,h⟩:=h;exact⟨_,h⟩
    |ty t=>
     simp only at h
     split at h
     · obtain⟨x,h⟩:=h;exact⟨_,h⟩
     · obtain⟨x,h⟩:=h;exact⟨_,h⟩
     · obtain⟨x,h⟩:=h;exact⟨_,h⟩
     · obtain⟨x,h⟩:=h;exact⟨_,h⟩
     · obtain⟨r,h⟩:=aa _ _ h;exact⟨_,h⟩
     · obtain⟨r,h⟩:=aa _ _ h;exact⟨_,h⟩
     · exact⟨_,h⟩
     · obtain⟨x,h⟩:=h;exact⟨_,h⟩
     · exact⟨_,h⟩
  · simp only[qx] at h
    cases l with
    |nil=>exact⟨_,h⟩
    |cons s l=>
     obtain⟨x,h⟩:=h1 _ _ h
     obtain⟨r,h⟩:=aa _ _ h
     exact⟨_,h⟩
theorem sq{P:Program}{n:Nat}{s:jx}{K:aw->cq}(h:(shape P n s K).p):∃x,(K x).p:=(Hl n).1 s K h
theorem Cu{p:Prop}{A B:cq}{dY:Option Bool}(h:(match dY with
  |none=>wy p (¬p) A B
  |some true=>e7 p A
  |some false=>e7 (¬p) B).p):(p/\A.p)\/(¬p/\B.p):=by
 cases dY with
 |none=>by_cases a8:p
        · exact .inl ⟨a8,h.1 a8⟩
        · exact .inr ⟨a8,h.2 a8⟩
 |some b=>cases b with
  |true=>exact .inl h
  |false=>exact .inr h
theorem zc:∀(s:aw) {dY:Option Bool} {A B:cq},(s.oj dY A B).p->s.sb=true/\((s.jQ=true/\A.p)\/(s.jQ=false/\B.p))
 |.fj,_,_,_,h=>⟨rfl,.inl ⟨rfl,h⟩⟩
 |.et,_,_,_,h=>⟨rfl,.inr ⟨rfl,h⟩⟩
 |.lt i n,dY,A,B,h=>by
  refine⟨rfl,?_⟩
  rcases Cu (p:=i<n) h with⟨h1,aa⟩|⟨h1,aa⟩
  · exact .inl ⟨kH h1,aa⟩
  · exact .inr ⟨nD h1,aa⟩
 |.le i n,dY,A,B,h=>by
  refine⟨rfl,?_⟩
  rcases Cu (p:=i<=n) h with⟨h1,aa⟩|⟨h1,aa⟩
  · exact .inl ⟨G0 h1,aa⟩
  · exact .inr ⟨G1 h1,aa⟩
 |.eq i n,dY,A,B,h=>by
  refine⟨rfl,?_⟩
  rcases Cu (p:=i=n) h with⟨h1,aa⟩|⟨h1,aa⟩
  · exact .inl ⟨OK h1,aa⟩
  · exact .inr ⟨OL h1,aa⟩
 |.br s,dY,A,B,h=>by
  refine⟨rfl,?_⟩
  simp only[aw.oj] at h
  obtain⟨_,aa⟩:=zc s h
  simp only[aw.jQ]
  rcases aa with⟨e,k⟩|⟨e,k⟩
  · right;exact⟨by rw[e];rfl,k⟩
  · left;exact⟨by rw[e];rfl,k⟩
 |.v a,dY,A,B,h=>by
  cases a<;>simp only[aw.oj] at h<;>first|(cases h;done)|skip
  rename_i x
  refine⟨rfl,?_⟩
  simp only[aw.jQ]
  cases x with
  |true=>left;refine⟨rfl,?_⟩;cases dY with
   |none=>exact h.1 rfl
   |some b=>cases b with
    |true=>exact h.2
    |false=>cases h.1
  |false=>right;refine⟨rfl,?_⟩;cases dY with
   |none=>exact h.2 rfl
   |some b=>cases b with
    |true=>cases h.1
    |false=>exact h.2
 |.o a,_,_,_,h=>by simp only[aw.oj] at h;cases h
 |.c6 l,_,_,_,h=>by simp only[aw.oj] at h;cases h
 |.dw l,_,_,_,h=>by simp only[aw.oj] at h;cases h
section
variable {P:Program} {inR:Bool} {call:cJ}
def hd(x:uV)(K:om)(dh:oo):Prop:=(∃s d q h,x=.ok (aw.den s) d q h/\(K s d q h).p)\/∃v d q h,x=.bu v d q h/\(dh v d q h).p
theorem hd.val{o:Oper}{g:Operand->I}{d:List bw}{q:az}{h ah:J}{K:om}{dh:oo}{s:aw}(e:b6 P o g h=.val s.den ah)(k:(K s d q ah).p):hd (dk P inR call none o g d q h) K dh:=
 .inl ⟨s,d,q,ah,by simp only[dk,dr,e],k⟩
theorem wB{K:cq}:∀(l:List aw),sk l=true->(sj l K).p->(aw.bE l).all I.ca=true/\K.p
 |[],_,h=>⟨rfl,h⟩
 |x::l,hk,h=>by
  cases x with
  |o a=>
   obtain⟨h1,aa⟩:=h
   obtain⟨bt,bA⟩:=wB l hk aa
   exact⟨by simp only[aw.bE,List.all_cons,aw.den,h1,bt,Bool.and_self],bA⟩
  |_=>
   simp only[sk,Bool.and_eq_true] at hk
   simp only[sj] at h
   obtain⟨bt,bA⟩:=wB l hk.2 h
   exact⟨by simp only[aw.bE,List.all_cons,hk.1,bt,Bool.and_self],bA⟩
theorem Cv{s:aw}{K:cq}(h:(t_ s K).p):s.den.cells=si s/\(si s).all I.ca=true/\K.p:=by
 cases s with
 |o a=>
  obtain⟨h1,aa⟩:=h
  refine⟨?_,by simp[si,h1],aa⟩
  show a.cells=[a]
  cases a<;>first|rfl|cases h1
 |c6 l=>
  simp only[t_] at h
  split at h
  · rename_i hk;exact⟨rfl,wB l hk h⟩
  · cases h
 |_=>
  simp only[t_] at h
  split at h
  · rename_i hk;exact⟨rfl,hk,h⟩
  · cases h
theorem kJ:∀l:List aw,aw.bE l=l.map aw.den
 |[]=>rfl
 |s::l=>by simp only[aw.bE,List.map_cons,kJ l]
theorem OT{s:aw}(h:(aw.bE (l5 s)).all I.ca=true):s.den.cells=aw.bE (l5 s)/\s.den≠ .bad:=by
 have one:∀a:I,a.ca=true->a.cells=[a]/\a≠ .bad:=λa aJ=>by cases a<;>first|(cases aJ;done)|exact⟨rfl,λh=>by cases h⟩
 have key:l5 s=[s]->s.den.cells=aw.bE (l5 s)/\s.den≠ .bad:=λe=>by
  rw[e] at h⊢
  simp only[aw.bE,List.all_cons,List.all_nil,Bool.and_true] at h⊢
  exact one _ h
 cases s with
 |c6 l=>exact⟨rfl,nofun⟩
 |v a=>
  cases a with
  |agg cs=>
   refine⟨?_,nofun⟩
   show cs=aw.bE (cs.map kI)
   rw[kJ,List.map_map]
   have:aw.den∘kI=id:=funext wz
   rw[this,List.map_id]
  |_=>exact key rfl
 |_=>exact key rfl
theorem OU{place:Nat->Option (Nat×Nat)}{cells:List I}{i:Nat}{v:I}{rest:List (Nat×I)}{off size:Nat}(aM:v≠ .bad)(a8:place i=some (off,size))(ae:(Nat.beq v.cells.length size&&Nat.ble (off+size) cells.length)=true){cs:List I}(ab:putCells off v.cells cells=some cs):iU place cells ((i,v)::rest)=iU place cs rest:=by
 cases v<;>first|exact absurd rfl aM|simp only[iU,a8,ae,ab]
theorem Cw{place:Nat->Option (Nat×Nat)}:∀(ps:List (Nat×aw)) (cells cs:List aw),sl place cells ps=some cs->(aw.bE (mJ ps)).all I.ca=true->iU place (aw.bE cells) (ps.map λp=>(p.1,p.2.den))=some (aw.bE cs)
 |[],cells,cs,h,_=>by cases h;rfl
 |(i,s)::rest,cells,cs,h,aJ=>by
  simp only[mJ,kJ,List.map_append,List.all_append,Bool.and_eq_true] at aJ
  rw[<-kJ,<-kJ] at aJ
  obtain⟨bt,bA⟩:=OT aJ.1
  simp only[sl] at h
  split at h
  · cases h
  · rename_i off size a8
    split at h
    · rename_i ae
      have ar:(aw.bE (l5 s)).length=(l5 s).length:=by rw[kJ,List.length_map]
      have ab:(aw.bE cells).length=cells.length:=by rw[kJ,List.length_map]
      have ev:=ae
      simp only[Bool.and_eq_true,Nat.ble_eq] at ev
      have bp:=Nat.eq_of_beq_eq_true ev.1
      have u9:putCells off s.den.cells (aw.bE cells)=some (aw.bE (cells.take off++l5 s++(cells.drop off).drop (l5 s).length)):=by
       have:=Cf ((aw.bE cells).take off) (aw.bE (l5 s)) ((aw.bE cells).drop off) aJ.1 (by simp;omega)
       rw[List.length_take,Nat.min_eq_left (by omega),List.take_append_drop] at this
       rw[bt,this,ar]
       simp only[kJ,List.map_append,List.map_take,List.map_drop,List.append_assoc]
      rw[List.map_cons,OU bA a8 (by rw[bt,ar,ab];exact ae) u9]
      exact Cw rest _ cs h aJ.2
    · cases h
theorem Hm{place:Nat->Option (Nat×Nat)}:∀(ps:List (Nat×aw)) (cells cs:List aw),sl place cells ps=some cs->(aw.bE cells).all I.ca=true->(aw.bE (mJ ps)).all I.ca=true->(aw.bE cs).all I.ca=true
 |[],cells,cs,h,ab,_=>by cases h;exact ab
 |(i,s)::rest,cells,cs,h,ab,aJ=>by
  simp only[mJ,kJ,List.map_append,List.all_append,Bool.and_eq_true] at aJ
  rw[<-kJ,<-kJ] at aJ
  simp only[sl] at h
  split at h
  · cases h
  · split at h
    · refine Hm rest _ cs h ?_ aJ.2
      rw[kJ] at ab⊢
      rw[List.all_eq_true] at ab⊢
      have h1:=aJ.1
      rw[kJ,List.all_eq_true] at h1
      intro x U
      rw[List.map_append,List.map_append,List.mem_append,List.mem_append] at U
      rcases U with(U|U)|U
      · rw[List.map_take] at U;exact ab x (List.mem_of_mem_take U)
      · exact h1 x U
      · rw[List.map_drop,List.map_drop] at U;exact ab x (List.mem_of_mem_drop (List.mem_of_mem_drop U))
    · cases h
theorem Hn{t:TypeId}{len:Nat}{ps:List (Nat×aw)}{K:TypeId->List aw->cq}(h:(za P t len ps K).p):∃e sz z cs,P.underlying t=some (.slice e)/\cQ P e=some sz/\ek P e=some z/\(Nat.ble (len*sz) 16777216&&Nat.beq z.cells.length sz)=true/\iU (λi=>some (i*sz,sz)) (if len*sz=0 then[] else fN len z.cells) (ps.map λp=>(p.1,p.2.den))=some (aw.bE cs)/\(aw.bE cs).all I.ca=true/\(K e cs).p:=by
 unfold za at h
 split at h
 · rename_i e hu
   split at h
   · rename_i sz z ad aW
     split at h
     · rename_i cs h1 aa ao aI
       obtain⟨bO,k⟩:=wB _ aI h
       have er:aw.bE ((if len*sz=0 then[] else fN len z.cells).map kI)=(if len*sz=0 then[] else fN len z.cells):=by rw[kJ,List.map_map,show aw.den∘kI=id from funext wz,List.map_id]
       have hf:=Cw _ _ _ ao bO
       have ab:=Hm _ _ _ ao (by rw[er];exact aa) bO
       rw[er] at hf
       exact⟨e,sz,z,cs,hu,ad,aW,h1,hf,ab,so k⟩
     · cases h
   · cases h
 · cases h
theorem Ho{g:Operand->aw}(parts:Array (Nat×Operand)):(parts.toList.map λp=>(p.1,g p.2)).map (λp=>(p.1,p.2.den))=parts.toList.map λp=>(p.1,(g p.2).den):=by
 rw[List.map_map];rfl
theorem Hp{dY:Option oi}{t:TypeId}{f:cR}{args:List I}{d:List bw}{q:az}{h:J}{K:om}{dh:oo}(U:(zb P call dY t f args d q h K dh).p):hd (uW d q (call f args h)) K dh:=by
 unfold zb at U
 split at U
 · obtain⟨x,g,e,k⟩:=sq U
   rw[e];exact .inr ⟨_,_,_,_,rfl,k⟩
 · rcases U with U|U
   · obtain⟨x,g,e,k⟩:=sq U
     rw[e];exact .inl ⟨_,_,_,_,rfl,k⟩
   · obtain⟨x,g,e,k⟩:=sq U
     rw[e];exact .inr ⟨_,_,_,_,rfl,k⟩
 · obtain⟨x,g,e,k⟩:=sq U
   rw[e];exact .inl ⟨_,_,_,_,rfl,k⟩
theorem sr{dY:Option oi}{o:Oper}{g:Operand->aw}{d:List bw}{q:az}{h:J}{K:om}{dh:oo}(U:(pd P inR call dY o g d q h K dh).p):hd (dk P inR call none o (λx=>(g x).den) d q h) K dh:=by
 unfold pd at U
 split at U
 · split at U
   · rename_i v ah he
     split at U
     · exact hd.val (s:=.o v) he U
     · exact hd.val (s:=.v v) he U
   · rename_i v ah he
     exact .inr ⟨v,d,q,ah,by simp only[dk,dr,he],U⟩
   · rename_i f args ah he
     have:=Hp U
     simpa only[dk,dr,he] using this
   · rename_i l args ah he
     have:=Hp U
     simpa only[dk,dr,he] using this
   · rename_i x he
     split at U
     · cases U
     · exact .inl ⟨.v (.aF []),_,_,_,by simp only[dk,dr,he];rfl,U⟩
   · rename_i he
     split at U
     · cases U
     · split at U
       · exact .inl ⟨.v .ej,_,_,_,by simp only[dk,dr,he];rfl,U⟩
       · exact .inl ⟨.v .ej,_,_,_,by simp only[dk,dr,he];rfl,U⟩
       · rename_i v
         exact .inl ⟨.v v,_,_,_,by simp only[dk,dr,he];rfl,U⟩
   · cases U
 · obtain⟨x,c,k⟩:=sq U
   exact hd.val (qs c) k
 · obtain⟨x,ah,c,k⟩:=sq U
   exact hd.val (B2 c) k
theorem OV{op:BinOp}{x y s:aw}(U:Co op x y=some s)(h:J)(t:TypeId)(a b:Operand):ec P h op t a b x.den y.den=some s.den:=by
 unfold Co at U
 split at U
 · rename_i k b_ gA ku
   split at U
   · rename_i hk
     obtain rfl:k=gA:=of_decide_eq_true hk
     split at U<;>first|(cases U;done)|(cases U;simp only[aw.den,ec,arith,if_true,aw.jQ])
   · cases U
 · cases U
theorem OW{op:BinOp}{x y s:aw}{t:TypeId}(U:Cr P op t x y=some s)(h:J)(a b:Operand):ec P h op t a b x.den y.den=some s.den:=by
 unfold Cr at U
 split at U
 · rename_i ae hu
   rw[Bool.and_eq_true] at ae
   cases U
   rw[aw.oq ae.1,aw.oq ae.2]
   simp only[ec,pE,if_true,hq,hu,aw.den,qy]
 · rename_i ae hu
   rw[Bool.and_eq_true] at ae
   cases U
   rw[aw.oq ae.1,aw.oq ae.2]
   simp only[ec,pE,if_true,hq,hu,aw.den,aw.jQ,qy]
 · cases U
theorem OX{op:BinOp}{x y:aw}{p:Prop}{v:I}(U:Cp op x y=some (p,v))(a8:p)(h:J)(t:TypeId)(a b:Operand):ec P h op t a b x.den y.den=some v:=by
 unfold Cp at U
 split at U
 · rename_i k b_ gA ku
   split at U
   · rename_i hk;cases U;obtain rfl:=of_decide_eq_true hk
     simp only[aw.den,ec,if_true];exact OE a8
   · rename_i hk;cases U;obtain rfl:=of_decide_eq_true hk
     simp only[aw.den,ec,if_true];exact OF a8.1 a8.2
   · rename_i hk;cases U;obtain rfl:=of_decide_eq_true hk
     simp only[aw.den,ec,if_true];exact OG a8
   · rename_i hk;cases U;obtain rfl:=of_decide_eq_true hk
     simp only[aw.den,ec,if_true];exact OI a8
   · rename_i hk;cases U;obtain rfl:=of_decide_eq_true hk
     simp only[aw.den,ec,if_true];exact OJ a8.1 a8.2
   · cases U
 · split at U
   · cases U
     simp only[aw.den,ec];exact y5 a8
   · cases U
 · cases U
theorem OY{dY:Option oi}{o:Oper}{g:Operand->aw}{d:List bw}{q:az}{h:J}{K:om}{dh:oo}(U:(Cs P inR call dY o g d q h K dh).p):hd (dk P inR call none o (λx=>(g x).den) d q h) K dh:=by
 unfold Cs at U
 split at U
 · rename_i x aQ
   exact hd.val (s:=g x) (by simp only[b6,aQ]) (aw.lp U)
 · rename_i x aQ
   exact hd.val (s:=g x) (by simp only[b6,aQ]) (aw.lp U)
 · rename_i t x aQ
   split at U
   · rename_i ae
     exact hd.val (s:=.br (g x)) (by simp only[b6,aQ,aw.oq ae];rfl) (aw.lp U)
   · cases U
 · rename_i op t x y yt aQ
   replace U:=aw.lp (aw.lp U)
   have key:∀{s:aw},ec P h op t x y (g x).den (g y).den=some s.den->(K s d q h).p->hd (dk P inR call none o (λx=>(g x).den) d q h) K dh:=λ{s} e k=>hd.val (s:=s) (by simp only[b6,aQ,e,fb]) k
   split at U
   · rename_i s ad
     split at ad
     · rename_i aV dg;cases ad;exact key (OV dg h t x y) U
     · exact key (OW ad h x y) U
   · split at U
     · split at U
       · rename_i v aM;exact key (s:=kI v) (by rw[wz];exact aM) (aw.lp U)
       · cases U
     · split at U
       · rename_i p v a8
         cases dY with
         |none=>exact key (s:=.v v) (OX a8 U.1 h t x y) U.2
         |some _=>cases a8
       · exact sr U
 · rename_i x i aQ
   split at U
   · rename_i l ar
     split at U
     · rename_i s ad
       exact hd.val (s:=s) (by simp only[b6,aQ,ar,aw.den,Hg _ _ _ ad,fb]) (aw.lp U)
     · cases U
   · exact sr U
 · rename_i t x i aQ
   split at U
   · rename_i m e b off n hu qn ag
     split at U
     · rename_i sz aW
       exact hd.val (s:=.v (.ptr b (off+n*sz))) (by simp only[b6,aQ,hu,qn,aw.den,ag,aW,if_pos U.1]) U.2
     · cases U
   · rename_i e b off m c n hu qn ag
     split at U
     · rename_i sz aW
       exact hd.val (s:=.v (.ptr b (off+n*sz))) (by simp only[b6,aQ,hu,qn,aw.den,ag,aW,if_pos U.1]) U.2
     · cases U
   · cases U
 · rename_i t a x aQ
   split at U
   · rename_i b off n qz aW
     split at U
     · rename_i ar
       obtain⟨av,au,ct,bm,k⟩:=Cv (aw.lp U)
       have ab:tM P o (λy=>(g y).den) h (.aF []) ct:=by
        unfold tM
        rw[aQ]
        simp only[qz]
        rw[av]
        exact⟨by rw[aW,Nat.eq_of_beq_eq_true ar],bm,trivial⟩
       exact hd.val (s:=.v (.aF [])) (B2 ab) k
     · cases U
   · cases U
 · rename_i t parts aQ
   split at U
   · exact sr U
   · split at U
     · rename_i z ax aW hu
       split at U
       · rename_i cs h1 aa ao
         obtain⟨bO,k⟩:=wB _ ao U
         have hf:=Cw _ _ _ aa bO
         rw[show aw.bE (z.cells.map kI)=z.cells by rw[kJ,List.map_map,show aw.den∘kI=id from funext wz,List.map_id],List.map_map] at hf
         exact hd.val (s:=.c6 cs) (by simp only[b6,aQ,aW,hu,h1];exact by rw[show(parts.toList.map λp=>(p.1,(g p.2).den))=parts.toList.map ((λp=>(p.1,aw.den p.2))∘ λp=>(p.1,g p.2)) from rfl,hf];rfl) (so k)
       · cases U
     · cases U
 · rename_i t len parts aQ
   split at U
   · exact sr U
   · obtain⟨e,sz,z,cs,hu,ad,aW,h1,hf,ab,k⟩:=Hn U
     rw[Ho] at hf
     exact hd.val (s:=.v (.slice h.n 0 len (.exact len))) (by simp only[b6,aQ,hu,ad,aW,h1,hf,newRow,ab];rfl) k
 · rename_i e x aQ
   obtain⟨av,au,k⟩:=Cv (aw.lp U)
   exact hd.val (s:=.v (.ptr h.n 0)) (by simp only[b6,aQ,newRow,av,au];rfl) k
 · rename_i c aQ
   split at U
   · rename_i ib
     split at U
     · rename_i a t aJ bk
       obtain⟨n,e,k⟩:=U
       have gu:c.args.toList.map (λy=>(g y).den)=[a]:=by
        have:(c.args.toList.map g).map aw.den=[a]:=by rw[aJ];rfl
        rw[List.map_map] at this;exact this
       have ab:j_ P o (λy=>(g y).den) h (.int .i64 (.ofNat n)):=by
        unfold j_
        rw[aQ]
        simp only[ib,gu,bk]
        exact e
       exact hd.val (s:=.v (.int .i64 (.ofNat n))) (qs ab) k
     · exact sr U
   · exact sr U
 · exact sr U
end
def keyOf(hB i:Nat)(o:Oper):Nat:=match o.dst with
 |some t=>t
 |none=>3000+50*hB+i
section
variable (P:Program) (need:Nat)
def ke(m:Nat)(env:List aw)(Γ:cz)(loc:List (Nat×Acc))(x:Operand):aw:=match jw m env Γ (bX P need loc x) with
 |some s=>s
 |none=>.v .bad
def zd(m:Nat)(env:List aw)(Γ:cz)(loc:List (Nat×Acc))(o:Oper):Bool:=o.op.operands.toList.all λx=>(jw m env Γ (bX P need loc x)).isSome
def ze(dY:Option Bool)(gd:Option (Acc×Bool))(m:Nat)(env:List aw)(Γ:cz)(ub dz:List aw->cz->cq):cq:=match gd with
 |none=>ub env Γ
 |some (a,b)=>match jw m env Γ a with
  |none=>bad "guard"
  |some s=>match s with
   |.v (.aF [])=>dz env Γ
   |s=>s.oj dY (qw (tZ m a .fj env) λenv=>mI (sg a .fj Γ) λΓ=>(match b with|true=>ub env Γ|false=>dz env Γ)) (qw (tZ m a .et env) λenv=>mI (sg a .et Γ) λΓ=>(match b with|true=>dz env Γ|false=>ub env Γ))
variable (inR:Bool) (call:cJ)
def wC(pl:ik)(key m:Nat)(env:List aw)(Γ:cz)(loc:List (Nat×Acc))(o:Oper)(d:List bw)(q:az)(h:J)(K:List aw->cz->om)(dh:cz->oo):cq:=match o.op with
 |.pick c a b=>match jw m env Γ (bX P need loc c) with
  |none=>bad "pick"
  |some s=>s.oj (y_ (sh (2000+key) pl)) (qw (tZ m (bX P need loc c) .fj env) λdS=>mI (sg (bX P need loc c) .fj Γ) λcu=>(ke P need m env Γ loc a).lo λx=>K dS cu x d q h) (qw (tZ m (bX P need loc c) .et env) λdS=>mI (sg (bX P need loc c) .et Γ) λcu=>(ke P need m env Γ loc b).lo λx=>K dS cu x d q h)
 |_=>Cs P inR call (sh key pl) o (ke P need m env Γ loc) d q h (K env Γ) (dh Γ)
def wD(pl:ik)(hB:Nat):List Step->List aw->cz->List bw->az->J->(List aw->cz->List bw->az->J->cq)->(I->cz->List bw->az->J->cq)->cq
 |[],env,Γ,d,q,h,K,_=>K env Γ d q h
 |s::rest,env,Γ,d,q,h,K,dh=>match zd P need s.m env Γ s.loc s.o with
  |false=>bad ("an operand " ++s.o.pos)
  |true=>ze (y_ (sh (1000+keyOf hB s.m s.o) pl)) s.guard s.m env Γ
   (λenv Γ=>wC P need inR call pl (keyOf hB s.m s.o) s.m env Γ s.loc s.o d q h (λenv Γ v d q h=>wD pl hB rest (v::env) Γ d q h K dh) (λΓ v d q h=>dh v Γ d q h))
   (λenv Γ=>wD pl hB rest (.v (.aF [])::env) Γ d q h K dh)
def ss(t:Nat):cz->cz
 |[]=>[]
 |(u,s)::l=>match Nat.beq t u with
  |true=>ss t l
  |false=>(u,s)::ss t l
def su(m:Nat)(env:List aw)(fI:cz):List (Nat×Acc)->cz->cz
 |[],Γ=>Γ
 |(t,a)::l,Γ=>match Nat.testBit need t with
  |true=>match jw m env fI a with
   |some s=>(t,s)::ss t (su m env fI l Γ)
   |none=>ss t (su m env fI l Γ)
  |false=>su m env fI l Γ
def wE:List (Nat×Acc)->cz->cz
 |[],Γ=>Γ
 |(t,_)::l,Γ=>ss t (wE l Γ)
abbrev l6:=List (Nat×Nat×J×Nat)
def hC:l6->mE
 |[]=>[]
 |(e,m,h,_)::l=>(e,m,h)::hC l
def zf(o:Oper)(g:Operand->aw):Bool:=match o.op with
 |.move _|.assign _|.pick .. |.build .. |.nilCheck _|.makeInterface .. |.makeFunc .. |.fieldAddr .. |.field .. |.indexAddr .. |.index .. |.extract .. |.typeAssert .. =>true
 |.unOp .. =>true
 |.binOp _ _ x y _=>match g x,g y with
  |.v (.int _ _),.v (.int _ _)=>true
  |.v (.str _),.v (.str _)=>true
  |x,y=>x.sb&&y.sb
 |.call c=>match c.callee with
  |.builtin .len=>match c.argTypes[0]? with
   |some t=>match P.underlying t with
    |some (.slice _)=>true
    |some .string=>true
    |_=>false
   |none=>false
  |_=>false
 |_=>false
def uc:List aw->cq->cq
 |[],K=>K
 |.o a::l,K=>e7 (a.sound=true) (uc l K)
 |s::l,K=>match s.den.sound with
  |true=>uc l K
  |false=>bad "sound"
def Cx:aw->cq->cq
 |.o a,K=>e7 (a.sound=true) K
 |.fj,K|.et,K|.lt _ _,K|.le _ _,K|.eq _ _,K|.br _,K=>K
 |.v a,K=>match a.sound with
  |true=>K
  |false=>bad "sound"
 |.c6 l,K=>uc l K
 |.dw l,K=>match oc (aw.bE l) with
  |true=>K
  |false=>bad "sound"
def ud(s:DStep)(f_:Nat):Option Nat->J->Nat->l6->List (Option (J×Option Nat))
 |nx,h,b4,a7=>
  (match o8 s nx (hC a7) with
   |true=>[]
   |false=>[match Nat.beq b4 f_ with|true=>none|false=>some (h,nx)])++
  (match a7 with
   |[]=>[]
   |(e,_,ah,kf)::rest=>ud s f_ (some e) ah kf rest)
def qA(ops:Array Oper)(n:Nat)(env:List aw)(Γ:cz)(s:DStep):Option (Nat×TypeId×I×I×Nat×I):=match s.o.op with
 |.convert _ _ x=>match bX P need s.loc x with
  |.env j=>match Nat.testBit s.dU j,nth j (ed ops.toList 0 [] []),jw n env Γ (.env j) with
   |true,some aV,some (.v (.slice b off m cp))=>match aV.o.op,hS P need ops aV.loc aV.o with
    |.makeSlice t l c,none=>match jw n env Γ (bX P need aV.loc l),jw n env Γ (bX P need aV.loc c) with
     |some nq,some Hq=>some (j,t,nq.den,Hq.den,b,.slice b off m cp)
     |_,_=>none
    |_,_=>none
   |_,_,_=>none
  |_=>none
 |_=>none
def pe(o:Oper)(g:Operand->I)(v:I)(ot:Bool)(w:Option (Nat×TypeId×I×I×Nat×I)):List (Option (J×Option Nat))->cq->cq
 |[],K=>K
 |none::l,K=>pe o g v ot w l K
 |some (h,nx)::l,K=>match ot with
  |true=>pe o g v ot w l K
  |false=>match w,nx with
   |some (j,t,a,c,b,x),some e=>match Nat.blt e j with
    |true=>fJ λz:b8=>e7 (ob P t a c b=some (x,z)) (e7 (j_ P o g (h.set b (some z)) v) (pe o g v ot w l K))
    |false=>e7 (j_ P o g h v) (pe o g v ot w l K)
   |_,_=>e7 (j_ P o g h v) (pe o g v ot w l K)
def kK(ops:Array Oper)(n:Nat)(env:List aw)(db:List Nat)(Γ:cz)(last:Option Nat)(h:J)(b4:Nat)(a7:l6):List DStep->cq->cq
 |[],K=>K
 |s::rest,K=>match Nat.blt s.i n,kindOf P s.o.op with
  |true,.pure=>match sd (n-1-s.i) env,nth (n-1-s.i) db with
   |some v,some f_=>match ud s f_ last h b4 a7 with
    |[]=>kK ops n env db Γ last h b4 a7 rest K
    |l=>match v with
     |.v (.aF [])=>match hS P need ops s.loc s.o with
      |some (a,b)=>match jw n env Γ a with
       |some (.v (.aF []))=>kK ops n env db Γ last h b4 a7 rest K
       |some .fj=>match b with
        |false=>kK ops n env db Γ last h b4 a7 rest K
        |true=>bad "look"
       |some .et=>match b with
        |true=>kK ops n env db Γ last h b4 a7 rest K
        |false=>bad "look"
       |_=>bad "look"
      |none=>bad "look"
     |v=>Cx v (pe P s.o (λx=>(ke P need n env Γ s.loc x).den) v.den (zf P s.o (ke P need n env Γ s.loc)) (qA P need ops n env Γ s) l (kK ops n env db Γ last h b4 a7 rest K))
   |_,_=>bad "look"
  |_,_=>kK ops n env db Γ last h b4 a7 rest K
def Cy(op:Op)(g:Operand->aw)(b:Nat)(K:aw->b8->cq):cq:=match op with
 |.box e x=>(g x).lo λs=>t_ s (K (.v (.ptr b 0)) (.cells (si s) e .own 0 0))
 |.makeSlice t l c=>match eT (g l).den with
  |some eG=>fJ λz:b8=>e7 (ob P t (g l).den (g c).den b=some (.slice b 0 eG (match eT (g c).den with|some c'=>.exact c'|none=>.dead),z)) (K (.v (.slice b 0 eG (match eT (g c).den with|some c'=>.exact c'|none=>.dead))) z)
  |none=>bad "makeSlice"
 |.buildSlice t len parts=>match(mJ (parts.toList.map λp=>(p.1,g p.2))).any aw.Cq with
  |true=>za P t len (parts.toList.map λp=>(p.1,g p.2)) λe cs=>K (.v (.slice b 0 len (.exact len))) (.cells (aw.bE cs) e .own 0 0)
  |false=>match hs P (.buildSlice t len parts) (λx=>(g x).den) b with
   |some (v,o)=>K (.v v) o
   |none=>bad "alloc"
 |op=>match hs P op (λx=>(g x).den) b with
  |some (v,o)=>K (.v v) o
  |none=>bad "alloc"
abbrev qB:=List aw->List Nat->cz->List bw->az->J->Nat->l6->cq
def qC(pl:ik)(hB:Nat)(ops:Array Oper)(cf:Nat):List DStep->List aw->List Nat->cz->List bw->az->J->Nat->l6->qB->(I->qB)->cq
 |[],env,db,Γ,d,q,h,b4,a7,K,_=>K env db Γ d q h b4 a7
 |s::rest,env,db,Γ,d,q,h,b4,a7,K,dh=>match zd P need s.i env Γ s.loc s.o with
  |false=>bad ("an operand " ++s.o.pos)
  |true=>ze (y_ (sh (1000+keyOf hB s.i s.o) pl)) (hS P need ops s.loc s.o) s.i env Γ
   (λenv Γ=>match kindOf P s.o.op with
    |.alloc=>Cy P s.o.op (ke P need s.i env Γ s.loc) (cf+s.i) λv o=>qC pl hB ops cf rest (v::env) (b4::db) Γ d q (h.set (cf+s.i) (some o)) (b4+1) a7 K dh
    |.pure=>wC P need inR call pl (keyOf hB s.i s.o) s.i env Γ s.loc s.o d q h (λenv Γ v _ _ _=>qC pl hB ops cf rest (v::env) (b4::db) Γ d q h b4 a7 K dh) (λ_ _ _ _ _=>bad "a panic")
    |.dA=>match rX s (hC a7) with
     |false=>bad "order"
     |true=>wC P need inR call pl (keyOf hB s.i s.o) s.i env Γ s.loc s.o d q h (λenv Γ v d' aX ah=>qC pl hB ops cf rest (v::env) (b4::db) Γ d' aX ah (b4+1) ((s.i,s.dU,h,b4)::a7) K dh)
      (λΓ v d' aX ah=>match rest.all (λaV=>Nat.testBit aV.dU s.i) with
       |true=>dh v env db Γ d' aX ah (b4+1) ((s.i,s.dU,h,b4)::a7)
       |false=>bad "panic"))
   (λenv Γ=>match kindOf P s.o.op with
    |.dA=>match rX s (hC a7) with
     |false=>bad "order"
     |true=>qC pl hB ops cf rest (.v (.aF [])::env) (b4::db) Γ d q h b4 ((s.i,s.dU,h,b4)::a7) K dh
    |_=>qC pl hB ops cf rest (.v (.aF [])::env) (b4::db) Γ d q h b4 a7 K dh)
end
section
variable {P:Program} {need:Nat} {inR:Bool} {call:cJ}
theorem Cz{m:Nat}{env:List aw}{Γ:cz}{loc:List (Nat×Acc)}{x:Operand}:(ke P need m env Γ loc x).den=(gi m (aw.bE env) (cd Γ) (bX P need loc x)).getD .bad:=by
 rw[<-sm]
 unfold ke
 split<;>rename_i h<;>rw[h]<;>rfl
theorem Hr{m:Nat}{env:List aw}{Γ:cz}{loc:List (Nat×Acc)}{o:Oper}(h:zd P need m env Γ loc o=true):∀x∈o.op.operands,(gi m (aw.bE env) (cd Γ) (bX P need loc x)).isSome=true:=by
 intro x U
 unfold zd at h
 rw[List.all_eq_true] at h
 have:=h x (by simpa using U)
 rw[<-sm,Option.isSome_map];exact this
theorem CA{r:aN}{G:Env}(hm:Mod r G){m:Nat}{l:List I}{loc:List (Nat×Acc)}{o:Oper}(h:∀x∈o.op.operands,(gi m l G (bX P need loc x)).isSome=true):∀x∈o.op.operands,cv m l r (bX P need loc x)=(gi m l G (bX P need loc x)).getD .bad:=by
 intro x U
 obtain⟨v,aM⟩:=Option.isSome_iff_exists.1 (h x U)
 rw[sn hm aM,aM];rfl
def nI(m:Nat)(l:List I)(G:Env)(gd:Option (Acc×Bool))(W:Bool):Prop:=match gd with
 |none=>W=true
 |some (a,b)=>∃wF,gi m l G a=some wF/\dr (some (wF,b))=some W
theorem nI.ok{m:Nat}{l:List I}{G:Env}{gd:Option (Acc×Bool)}{W:Bool}(h:nI m l G gd W){r:aN}(hm:Mod r G):dr (gd.map λx=>(cv m l r x.1,x.2))=some W:=by
 cases gd with
 |none=>cases h;rfl
 |some x=>
  obtain⟨wF,h1,aa⟩:=h
  simp only[Option.map_some,sn hm h1,aa]
theorem nI.more{m:Nat}{l:List I}{G:Env}{gd:Option (Acc×Bool)}{W:Bool}(h:nI m l G gd W)(x:I):nI (m+1) (x::l) G gd W:=by
 cases gd with
 |none=>exact h
 |some y=>
  obtain⟨wF,h1,aa⟩:=h
  exact⟨wF,wA x h1,aa⟩
theorem Hs{dY:Option Bool}{gd:Option (Acc×Bool)}{m:Nat}{env:List aw}{Γ:cz}{ub dz:List aw->cz->cq}(h:(ze dY gd m env Γ ub dz).p):
  ∃dS cu,aw.bE dS=aw.bE env/\cd cu=cd Γ/\dS.length=env.length/\(((ub dS cu).p/\nI m (aw.bE env) (cd Γ) gd true)\/((dz dS cu).p/\nI m (aw.bE env) (cd Γ) gd false)):=by
 unfold ze at h
 split at h
 · exact⟨env,Γ,rfl,rfl,rfl,.inl ⟨h,rfl⟩⟩
 · rename_i a b
   split at h
   · cases h
   · rename_i s ad
     have ff:gi m (aw.bE env) (cd Γ) a=some s.den:=by rw[<-sm,ad];rfl
     split at h
     · exact⟨env,Γ,rfl,rfl,rfl,.inr ⟨h,_,ff,rfl⟩⟩
     · obtain⟨ae,U⟩:=zc _ h
       have ak:=aw.oq ae
       rcases U with⟨bk,hk⟩|⟨bk,hk⟩
       · rw[bk] at ak
         obtain⟨av,au,bm⟩:=ua (x:=.fj) ad ak
         refine⟨_,_,av,au,bm,?_⟩
         have hk:=nH (so hk)
         cases b with
         |true=>exact .inl ⟨hk,_,ff,by rw[ak];rfl⟩
         |false=>exact .inr ⟨hk,_,ff,by rw[ak];rfl⟩
       · rw[bk] at ak
         obtain⟨av,au,bm⟩:=ua (x:=.et) ad ak
         refine⟨_,_,av,au,bm,?_⟩
         have hk:=nH (so hk)
         cases b with
         |true=>exact .inr ⟨hk,_,ff,by rw[ak];rfl⟩
         |false=>exact .inl ⟨hk,_,ff,by rw[ak];rfl⟩
theorem CB{pl:ik}{key m:Nat}{env:List aw}{Γ:cz}{loc:List (Nat×Acc)}{o:Oper}{d:List bw}{q:az}{h:J}{K:List aw->cz->om}{dh:cz->oo}(U:(wC P need inR call pl key m env Γ loc o d q h K dh).p):
  ∃dS cu,aw.bE dS=aw.bE env/\cd cu=cd Γ/\dS.length=env.length/\hd (dk P inR call none o (λx=>(gi m (aw.bE env) (cd Γ) (bX P need loc x)).getD .bad) d q h) (K dS cu) (dh cu):=by
 have an:(λx=>(gi m (aw.bE env) (cd Γ) (bX P need loc x)).getD .bad)=λx=>(ke P need m env Γ loc x).den:=funext λx=>Cz.symm
 unfold wC at U
 split at U
 · rename_i c a b aQ
   split at U
   · cases U
   · rename_i s ad
     obtain⟨ae,aP⟩:=zc _ U
     have ak:=aw.oq ae
     have yW:(ke P need m env Γ loc c).den=s.den:=by unfold ke;rw[ad]
     rw[an]
     rcases aP with⟨bk,hk⟩|⟨bk,hk⟩
     · rw[bk] at ak
       obtain⟨av,au,bm⟩:=ua (x:=.fj) ad ak
       exact⟨_,_,av,au,bm,hd.val (s:=ke P need m env Γ loc a) (by simp only[b6,aQ,yW,ak]) (aw.lp (nH (so hk)))⟩
     · rw[bk] at ak
       obtain⟨av,au,bm⟩:=ua (x:=.et) ad ak
       exact⟨_,_,av,au,bm,hd.val (s:=ke P need m env Γ loc b) (by simp only[b6,aQ,yW,ak]) (aw.lp (nH (so hk)))⟩
 · rw[an]
   exact⟨env,Γ,rfl,rfl,rfl,OY U⟩
theorem CC{r:aN}{s:Step}{rest:List Step}{env:List I}{d:List bw}{q:az}{h:J}:hr P need inR call r (s::rest) env d q h=match dk P inR call (s.guard.map λx=>(cv s.m env r x.1,x.2)) s.o (λx=>cv s.m env r (bX P need s.loc x)) d q h with
  |.ok v d' aX ah=>hr P need inR call r rest (v::env) d' aX ah
  |.bu v d' aX ah=>.bu v d' aX ah
  |.fail w=>.fail w:=by
 obtain⟨gd,o,loc,m⟩:=s
 cases gd<;>rfl
theorem CD{pl:ik}{hB:Nat}:∀(l:List Step) (env:List aw) (Γ:cz) (d:List bw) (q:az) (h:J) {K:List aw->cz->List bw->az->J->cq} {dh:I->cz->List bw->az->J->cq},(wD P need inR call pl hB l env Γ d q h K dh).p->
  (∃dS cu d' aX ah,(∀r,Mod r (cd Γ)->hr P need inR call r l (aw.bE env) d q h=.ok (aw.bE dS) d' aX ah)/\cd cu=cd Γ/\(K dS cu d' aX ah).p)\/∃v cu d' aX ah,(∀r,Mod r (cd Γ)->hr P need inR call r l (aw.bE env) d q h=.bu v d' aX ah)/\cd cu=cd Γ/\(dh v cu d' aX ah).p
 |[],env,Γ,d,q,h,K,dh,U=>.inl ⟨env,Γ,d,q,h,λ_ _=>rfl,rfl,U⟩
 |s::rest,env,Γ,d,q,h,K,dh,U=>by
  simp only[wD] at U
  split at U
  · cases U
  · rename_i hk
    have hJ:∀r,Mod r (cd Γ)->∀gd,dk P inR call gd s.o (λx=>cv s.m (aw.bE env) r (bX P need s.loc x)) d q h=dk P inR call gd s.o (λx=>(gi s.m (aw.bE env) (cd Γ) (bX P need s.loc x)).getD .bad) d q h:=λr hm gd=>rQ (CA hm (Hr hk))
    obtain⟨mK,fY,av,au,bm,hw⟩:=Hs U
    rcases hw with⟨hw,ou⟩|⟨hw,ou⟩
    · obtain⟨nJ,gT,f1,f2,f3,aQ⟩:=CB hw
      rw[av,au] at aQ
      rcases aQ with⟨x,d1,aT,h1,he,hg⟩|⟨v,d1,aT,h1,he,hg⟩
      · have bc:=CD rest (x::nJ) gT d1 aT h1 hg
        have key:∀r,Mod r (cd Γ)->hr P need inR call r (s::rest) (aw.bE env) d q h=hr P need inR call r rest (aw.bE (x::nJ)) d1 aT h1:=λr hm=>by
         rw[CC,hJ r hm,tQ (ou.ok hm),he]
         simp only[aw.bE,f1,av]
        rw[f2,au] at bc
        rcases bc with⟨dS,cu,d',aX,ah,i1,i2,i3⟩|⟨v,cu,d',aX,ah,i1,i2,i3⟩
        · exact .inl ⟨dS,cu,d',aX,ah,λr hm=>(key r hm).trans (i1 r hm),i2,i3⟩
        · exact .inr ⟨v,cu,d',aX,ah,λr hm=>(key r hm).trans (i1 r hm),i2,i3⟩
      · refine .inr ⟨v,gT,d1,aT,h1,λr hm=>?_,f2.trans au,hg⟩
        rw[CC,hJ r hm,tQ (ou.ok hm),he]
    · have bc:=CD rest (.v (.aF [])::mK) fY d q h hw
      have key:∀r,Mod r (cd Γ)->hr P need inR call r (s::rest) (aw.bE env) d q h=hr P need inR call r rest (aw.bE (.v (.aF [])::mK)) d q h:=λr hm=>by
       rw[CC,wg (ou.ok hm)]
       simp only[aw.bE,aw.den,av]
      rw[au] at bc
      rcases bc with⟨dS,cu,d',aX,ah,i1,i2,i3⟩|⟨v,cu,d',aX,ah,i1,i2,i3⟩
      · exact .inl ⟨dS,cu,d',aX,ah,λr hm=>(key r hm).trans (i1 r hm),i2,i3⟩
      · exact .inr ⟨v,cu,d',aX,ah,λr hm=>(key r hm).trans (i1 r hm),i2,i3⟩
theorem wG(t:Nat):∀Γ:cz,cd (ss t Γ)=del t (cd Γ)
 |[]=>rfl
 |(u,s)::l=>by
  simp only[ss,cd,del]
  cases Nat.beq t u with
  |true=>exact wG t l
  |false=>simp only[cd];rw[wG t l]
theorem CE{m:Nat}{env:List aw}{gB:aN}{fI:cz}(hm:Mod gB (cd fI)):∀(l:List (Nat×Acc)) (r:aN) (Γ:cz),Mod r (cd Γ)->Mod (mX need m (aw.bE env) gB l r) (cd (su need m env fI l Γ))
 |[],r,Γ,h=>h
 |(t,a)::l,r,Γ,h=>by
  have bc:=CE (m:=m) (env:=env) hm l r Γ h
  simp only[mX,su]
  cases Nat.testBit need t with
  |false=>exact bc
  |true=>
   cases an:jw m env fI a with
   |some s=>
    have:gi m (aw.bE env) (cd fI) a=some s.den:=by rw[<-sm,an];rfl
    simp only[cd,wG]
    rw[sn hm this];exact bc.put t s.den
   |none=>simp only[wG];exact bc.del t _
theorem CF:∀(l:List (Nat×Acc)) (r:aN) (Γ:cz),Mod r (cd Γ)->Mod (s9 l r) (cd (wE l Γ))
 |[],r,Γ,h=>h
 |(t,a)::l,r,Γ,h=>by simp only[wE,wG];exact(CF l r Γ h).del t _
theorem Ht:∀(ops:List Oper) (n:Nat) (loc:List (Nat×Acc)) (fP:List Nat) (k:Nat) (s:DStep),(ed ops n loc fP)[k]? =some s->s.i=n+k
 |[],n,loc,fP,k,s,h=>by simp[ed] at h
 |o::l,n,loc,fP,0,s,h=>by simp only[ed,List.getElem?_cons_zero,Option.some.injEq] at h;rw[<-h];rfl
 |o::l,n,loc,fP,k+1,s,h=>by
  simp only[ed,List.getElem?_cons_succ] at h
  have:=Ht l (n+1) _ _ k s h
  omega
def ue(P:Program)(need:Nat)(ops:Array Oper)(s:DStep)(n:Nat)(l:List I)(G:Env)(db:List Nat)(H:Nat->J):Prop:=s.i<n/\(kindOf P s.o.op=.pure->(∀x∈s.o.op.operands,(gi n l G (bX P need s.loc x)).isSome=true)/\∀v f_,nth (n-1-s.i) l=some v->nth (n-1-s.i) db=some f_->nI n l G (hS P need ops s.loc s.o) false\/(nI n l G (hS P need ops s.loc s.o) true/\∃ah,b6 P s.o (λx=>(gi n l G (bX P need s.loc x)).getD .bad) (H f_)=.val v ah))
theorem OZ{α:Type}{n i:Nat}(h:i<n)(x:α)(l:List α):nth (n+1-1-i) (x::l)=nth (n-1-i) l:=by
 have:n+1-1-i=(n-1-i)+1:=by omega
 rw[this];rfl
theorem Hu{α:Type}:∀(n:Nat) (l:List α) (x:α),nth n l=some x->x∈l
 |0,[],_,h=>by cases h
 |_+1,[],_,h=>by cases h
 |0,y::l,x,h=>by cases h;exact List.mem_cons_self
 |n+1,y::l,x,h=>List.mem_cons_of_mem _ (Hu n l x h)
theorem ue.more{ops:Array Oper}{s:DStep}{n:Nat}{l:List I}{G:Env}{db:List Nat}{H aD:Nat->J}(h:ue P need ops s n l G db H)(x:I)(y:Nat)(hH:∀f_∈db,aD f_=H f_):ue P need ops s (n+1) (x::l) G (y::db) aD:=by
 obtain⟨h1,aa⟩:=h
 refine⟨by omega,λhk=>?_⟩
 obtain⟨bt,bA⟩:=aa hk
 refine⟨λz aW=>?_,λv f_ aM lq=>?_⟩
 · obtain⟨w,hw⟩:=Option.isSome_iff_exists.1 (bt z aW)
   rw[wA x hw];rfl
 · rw[OZ h1] at aM lq
   rcases bA v f_ aM lq with e|⟨er,ah,e⟩
   · exact .inl (e.more x)
   · have O0:=Hu _ _ _ lq
     refine .inr ⟨er.more x,ah,?_⟩
     rw[hH f_ O0,<-e]
     exact vI s.o _ λz aW=>by
      obtain⟨w,hw⟩:=Option.isSome_iff_exists.1 (bt z aW)
      rw[wA x hw,hw]
end
section
variable {P:Program} {need:Nat} {inR:Bool} {call:cJ}
theorem zg:∀l:List aw,(aw.bE l).length=l.length
 |[]=>rfl
 |_::l=>by simp only[aw.bE,List.length_cons,zg l]
structure l7(P:Program)(need:Nat)(ops:Array Oper)(pre:List DStep)(env:List aw)(db:List Nat)(Γ:cz)(h:J)(b4:Nat)(a7:l6)(H:Nat->J):Prop where
 cur:H b4=h
 le:∀f_∈db,f_<=b4
 st:∀z∈a7,z.2.2.2<=b4/\H z.2.2.2=z.2.2.1
 pl:pre.length=env.length
 seen:∀s∈pre,ue P need ops s env.length (aw.bE env) (cd Γ) db H
theorem l7.push{ops:Array Oper}{pre:List DStep}{env dS:List aw}{db:List Nat}{Γ cu:cz}{h ah:J}{b4 kf:Nat}{a7 qD:l6}{H aD:Nat->J}(w:l7 P need ops pre env db Γ h b4 a7 H){s:DStep}{v:aw}(ag:s.i=env.length)(av:aw.bE dS=aw.bE env)(au:cd cu=cd Γ)(bm:dS.length=env.length)
  (hH:∀k,k<=b4->aD k=H k)(aM:b4<=kf)(ab:aD kf=ah)(ad:∀z∈qD,z.2.2.2<=kf/\aD z.2.2.2=z.2.2.1)
  (a8:kindOf P s.o.op=.pure->(∀x∈s.o.op.operands,(gi s.i (aw.bE env) (cd Γ) (bX P need s.loc x)).isSome=true)/\(nI s.i (aw.bE env) (cd Γ) (hS P need ops s.loc s.o) false\/(nI s.i (aw.bE env) (cd Γ) (hS P need ops s.loc s.o) true/\∃fu,b6 P s.o (λx=>(gi s.i (aw.bE env) (cd Γ) (bX P need s.loc x)).getD .bad) h=.val v.den fu))):
  l7 P need ops (pre++[s]) (v::dS) (b4::db) cu ah kf qD aD:=by
 refine⟨ab,λf_ lq=>?_,ad,by simp[w.pl,bm],λz aW=>?_⟩
 · rcases List.mem_cons.1 lq with rfl|lq
   · exact aM
   · exact Nat.le_trans (w.le f_ lq) aM
 · rw[List.length_cons,bm,au]
   simp only[aw.bE,av]
   rcases List.mem_append.1 aW with aW|aW
   · exact(w.seen z aW).more _ _ λf_ lq=>hH f_ (w.le f_ lq)
   · obtain rfl:z=s:=by simpa using aW
     refine⟨by omega,λhk=>?_⟩
     obtain⟨bt,bA⟩:=a8 hk
     rw[ag] at bt bA
     refine⟨λx U=>?_,λu f_ hu lq=>?_⟩
     · obtain⟨y,aP⟩:=Option.isSome_iff_exists.1 (bt x U)
       rw[wA _ aP];rfl
     · have aA:env.length+1-1-z.i=0:=by omega
       rw[aA] at hu lq
       cases hu;cases lq
       rcases bA with bA|⟨kt,fu,bA⟩
       · exact .inl (bA.more _)
       · refine .inr ⟨kt.more _,fu,?_⟩
         rw[hH b4 (Nat.le_refl _),w.cur,<-bA]
         exact vI _ _ λx U=>by
          obtain⟨y,aP⟩:=Option.isSome_iff_exists.1 (bt x U)
          rw[wA _ aP,aP]
theorem wH{ops:Array Oper}{r:aN}{n:Nat}{env:List I}{s:DStep}:eO P need ops r n env s=(hS P need ops s.loc s.o).map λx=>(cv n env r x.1,x.2):=by
 unfold eO
 cases hS P need ops s.loc s.o<;>rfl
def Hv:iT->Prop
 |.val _ _=>True
 |.bu _ _=>True
 |.fail _=>True
 |_=>False
theorem O1{o:Oper}{g:Operand->I}{H:J}(hk:kindOf P o.op=.pure):Hv (b6 P o g H):=by
 have gh:∀(w:String) (x:Option I),Hv (fb H w x):=λw x=>by cases x<;>trivial
 obtain⟨dst,op,type,pos,after,guard⟩:=o
 cases op<;>simp only[kindOf] at hk<;>(try (cases hk;done))<;>unfold b6<;>simp only
 case binOp=>exact gh _ _
 case slice=>exact gh _ _
 case lookup=>exact gh _ _
 case convert s d x=>
  have b9:∀e,P.underlying d≠some (.slice e):=λe he=>by rw[he] at hk;cases hk
  unfold iB
  repeat' (first|trivial|exact absurd (by assumption) (b9 _)|split)
 case call c=>
  cases ab:c.callee with
  |value f=>rw[ab] at hk;cases hk
  |invoke r n=>rw[ab] at hk;cases hk
  |builtin b=>
   rw[ab] at hk
   cases b<;>simp only at hk<;>(try (cases hk;done))<;>simp only[hR]<;>repeat' (first|trivial|exact gh _ _|split)
 all_goals repeat' (first|trivial|exact gh _ _|split)
theorem O2{o:Oper}{g:Operand->I}{d d1:List bw}{q aT:az}{h h1:J}{v:I}(hk:kindOf P o.op=.pure)(e:dk P inR call none o g d q h=.ok v d1 aT h1):∃ah,b6 P o g h=.val v ah:=by
 have aM:=O1 (P:=P) (g:=g) (H:=h) hk
 unfold dk at e
 simp only[dr] at e
 cases aQ:b6 P o g h<;>rw[aQ] at e aM<;>first|(exact aM.elim)|(cases e;done)|(cases e;exact⟨_,rfl⟩)
theorem O3{op:Op}{g:Operand->aw}{b:Nat}{K:aw->b8->cq}(h:(Cy P op g b K).p):∃s o,hs P op (λx=>(g x).den) b=some (aw.den s,o)/\(K s o).p:=by
 unfold Cy at h
 split at h
 · rename_i e x
   obtain⟨av,au,k⟩:=Cv (aw.lp h)
   exact⟨_,_,by simp only[hs,av,au];rfl,k⟩
 · rename_i t l c
   split at h
   · obtain⟨z,aW,k⟩:=h
     exact⟨_,_,Gy (op:=.makeSlice t l c) (v:=aw.den (.v _)) aW,k⟩
   · cases h
 · rename_i t len parts
   split at h
   · obtain⟨e,sz,z,cs,hu,ad,aW,h1,hf,ab,k⟩:=Hn h
     rw[Ho] at hf
     exact⟨.v _,_,by simp only[hs,hu,ad,aW,h1,hf,ab];rfl,k⟩
   · split at h
     · rename_i v o aM
       exact⟨.v v,o,aM,h⟩
     · cases h
 · split at h
   · rename_i v o aM
     exact⟨.v v,o,aM,h⟩
   · cases h
def e9(H:Nat->J)(k:Nat)(h:J)(j:Nat):J:=if j=k then h else H j
def ov(P:Program)(need:Nat)(inR:Bool)(call:cJ)(ops:Array Oper)(cf:Nat)(full l:List DStep)(env:List aw)(G:Env)(d:List bw)(q:az)(h:J)(a7:l6)(K:qB)(dh:I->qB):Prop:=
 (∃dS qE cu d' aX ah kf qD aD,(∀r,Mod r G->fB P need inR call ops r cf l (aw.bE env) d q h (hC a7)=.ok (aw.bE dS) d' aX ah (hC qD))/\cd cu=G/\l7 P need ops full dS qE cu ah kf qD aD/\(K dS qE cu d' aX ah kf qD).p)\/
 ∃v dS qE cu d' aX ah kf e m aA uf qj aD wI,(∀r,Mod r G->fB P need inR call ops r cf l (aw.bE env) d q h (hC a7)=.bu v (aw.bE dS) d' aX ah (hC ((e,m,aA,uf)::qj)))/\cd cu=G/\l7 P need ops wI dS qE cu aA uf qj aD/\(∃post,full=wI++post)/\(dh v dS qE cu d' aX ah kf ((e,m,aA,uf)::qj)).p
theorem ov.trans{ops:Array Oper}{cf:Nat}{full l dQ:List DStep}{env nJ:List aw}{G:Env}{d d2:List bw}{q bb:az}{h aa:J}{a7 Hw:l6}{K:qB}{dh:I->qB}(hk:∀r,Mod r G->fB P need inR call ops r cf l (aw.bE env) d q h (hC a7)=fB P need inR call ops r cf dQ (aw.bE nJ) d2 bb aa (hC Hw))(he:ov P need inR call ops cf full dQ nJ G d2 bb aa Hw K dh):ov P need inR call ops cf full l env G d q h a7 K dh:=by
 rcases he with⟨bO,a2,a3,a4,a5,jy,jz,jA,a9,cH,cD,ga,kL⟩|⟨bO,a2,a3,a4,a5,jy,jz,jA,a9,ck,cn,fT,kg,pf,O4,cH,cD,ga,kL,hh⟩
 · exact .inl ⟨bO,a2,a3,a4,a5,jy,jz,jA,a9,λr hm=>(hk r hm).trans (cH r hm),cD,ga,kL⟩
 · exact .inr ⟨bO,a2,a3,a4,a5,jy,jz,jA,a9,ck,cn,fT,kg,pf,O4,λr hm=>(hk r hm).trans (cH r hm),cD,ga,kL,hh⟩
theorem sv{ops:Array Oper}{r:aN}{cf:Nat}{s:DStep}{rest:List DStep}{env:List I}{d:List bw}{q:az}{h:J}{a7:mE}:fB P need inR call ops r cf (s::rest) env d q h a7=
  match kindOf P s.o.op with
  |.alloc=>match dr (eO P need ops r s.i env s) with
   |none=>.fail ""
   |some false=>fB P need inR call ops r cf rest (.aF []::env) d q h a7
   |some true=>match hs P s.o.op (λx=>cv s.i env r (bX P need s.loc x)) (cf+s.i) with
    |some (v,o)=>fB P need inR call ops r cf rest (v::env) d q (h.set (cf+s.i) (some o)) a7
    |none=>.fail ""
  |.pure=>match dk P inR call (eO P need ops r s.i env s) s.o (λx=>cv s.i env r (bX P need s.loc x)) d q h with
   |.ok v _ _ _=>fB P need inR call ops r cf rest (v::env) d q h a7
   |.bu _ _ _ _=>.fail ""
   |.fail w=>.fail w
  |.dA=>match rX s a7 with
   |false=>.fail ""
   |true=>match dk P inR call (eO P need ops r s.i env s) s.o (λx=>cv s.i env r (bX P need s.loc x)) d q h with
    |.ok v d' aX ah=>fB P need inR call ops r cf rest (v::env) d' aX ah ((s.i,s.dU,h)::a7)
    |.bu v d' aX ah=>match rest.all (λaV=>Nat.testBit aV.dU s.i) with
     |true=>.bu v env d' aX ah ((s.i,s.dU,h)::a7)
     |false=>.fail ""
    |.fail w=>.fail w:=by
 cases a7<;>rfl
theorem sw{pl:ik}{hB:Nat}{ops:Array Oper}{cf:Nat}{full:List DStep}(ow:∀(k:Nat) (s:DStep),full[k]? =some s->s.i=k){K:qB}{dh:I->qB}:∀(l pre:List DStep) (env:List aw) (db:List Nat) (Γ:cz) (d:List bw) (q:az) (h:J) (b4:Nat) (a7:l6) (H:Nat->J),full=pre++l->l7 P need ops pre env db Γ h b4 a7 H->(qC P need inR call pl hB ops cf l env db Γ d q h b4 a7 K dh).p->ov P need inR call ops cf full l env (cd Γ) d q h a7 K dh
 |[],pre,env,db,Γ,d,q,h,b4,a7,H,hf,w,U=>by
  rw[List.append_nil] at hf
  subst hf
  exact .inl ⟨env,db,Γ,d,q,h,b4,a7,H,λ_ _=>rfl,rfl,w,U⟩
 |s::rest,pre,env,db,Γ,d,q,h,b4,a7,H,hf,w,U=>by
  have ag:s.i=env.length:=by
   rw[<-w.pl]
   exact ow pre.length s (by rw[hf];simp)
  have nK:full=(pre++[s])++rest:=by rw[hf];simp
  simp only[qC] at U
  split at U
  · cases U
  · rename_i hk
    have wJ:=Hr hk
    have an:∀r,Mod r (cd Γ)->∀x∈s.o.op.operands,cv s.i (aw.bE env) r (bX P need s.loc x)=(gi s.i (aw.bE env) (cd Γ) (bX P need s.loc x)).getD .bad:=λr hm=>CA hm wJ
    have hJ:∀r,Mod r (cd Γ)->∀gd,dk P inR call gd s.o (λx=>cv s.i (aw.bE env) r (bX P need s.loc x)) d q h=dk P inR call gd s.o (λx=>(gi s.i (aw.bE env) (cd Γ) (bX P need s.loc x)).getD .bad) d q h:=λr hm gd=>rQ (an r hm)
    obtain⟨mK,fY,av,au,bm,hw⟩:=Hs U
    have eX:∀z∈a7,z.2.2.2<=b4/\H z.2.2.2=z.2.2.1:=w.st
    rcases hw with⟨hw,ou⟩|⟨hw,ou⟩
    · have qF:∀r,Mod r (cd Γ)->dr (eO P need ops r s.i (aw.bE env) s)=some true:=λr hm=>by rw[wH];exact ou.ok hm
      split at hw
      · rename_i gw
        obtain⟨v,o,aJ,hg⟩:=O3 hw
        have lX:hs P s.o.op (λx=>(gi s.i (aw.bE env) (cd Γ) (bX P need s.loc x)).getD .bad) (cf+s.i)=some (v.den,o):=by
         rw[<-aJ];congr 1;exact funext λx=>by rw[Cz,av,au]
        have bQ:l7 P need ops (pre++[s]) (v::mK) (b4::db) fY (h.set (cf+s.i) (some o)) (b4+1) a7 (e9 H (b4+1) (h.set (cf+s.i) (some o))):=
         w.push ag av au bm (λk hk=>by unfold e9;rw[if_neg (by omega)]) (by omega) (by unfold e9;rw[if_pos rfl]) (λz aW=>by
          obtain⟨bS,z2⟩:=eX z aW
          exact⟨by omega,by unfold e9;rw[if_neg (by omega)];exact z2⟩) (λa8=>by rw[gw] at a8;cases a8)
        have bc:=sw ow rest (pre++[s]) (v::mK) (b4::db) fY d q _ (b4+1) a7 _ nK bQ hg
        rw[au] at bc
        refine ov.trans (λr hm=>?_) bc
        rw[sv,gw]
        simp only[qF r hm]
        rw[vJ _ _ (an r hm),lX]
        simp only[aw.bE,av]
      · rename_i gw
        obtain⟨nJ,gT,f1,f2,f3,aQ⟩:=CB hw
        rw[av,au] at aQ
        rcases aQ with⟨x,d1,aT,h1,he,hg⟩|⟨v,d1,aT,h1,he,hg⟩
        · have dK:=O2 gw he
          have bQ:l7 P need ops (pre++[s]) (x::nJ) (b4::db) gT h b4 a7 H:=
           w.push ag (f1.trans av) (f2.trans au) (f3.trans bm) (λk hk=>rfl) (Nat.le_refl _) w.cur eX (λ_=>⟨wJ,.inr ⟨ou,dK⟩⟩)
          have bc:=sw ow rest (pre++[s]) (x::nJ) (b4::db) gT d q h b4 a7 H nK bQ hg
          rw[f2,au] at bc
          refine ov.trans (λr hm=>?_) bc
          rw[sv,gw]
          simp only
          rw[hJ r hm,tQ (qF r hm),he]
          simp only[aw.bE,f1,av]
        · cases hg
      · rename_i gw
        split at hw
        · cases hw
        · rename_i kD
          obtain⟨nJ,gT,f1,f2,f3,aQ⟩:=CB hw
          rw[av,au] at aQ
          rcases aQ with⟨x,d1,aT,h1,he,hg⟩|⟨v,d1,aT,h1,he,hg⟩
          · have bQ:l7 P need ops (pre++[s]) (x::nJ) (b4::db) gT h1 (b4+1) ((s.i,s.dU,h,b4)::a7) (e9 H (b4+1) h1):=
              w.push ag (f1.trans av) (f2.trans au) (f3.trans bm) (λk hk=>by unfold e9;rw[if_neg (by omega)]) (by omega) (by unfold e9;rw[if_pos rfl]) (λz aW=>by
               rcases List.mem_cons.1 aW with rfl|aW
               · exact⟨by simp,by unfold e9;rw[if_neg (by simp)];exact w.cur⟩
               · obtain⟨bS,z2⟩:=eX z aW
                 exact⟨by omega,by unfold e9;rw[if_neg (by omega)];exact z2⟩) (λa8=>by rw[gw] at a8;cases a8)
            have bc:=sw ow rest (pre++[s]) (x::nJ) (b4::db) gT d1 aT h1 (b4+1) _ _ nK bQ hg
            rw[f2,au] at bc
            refine ov.trans (λr hm=>?_) bc
            rw[sv,gw]
            simp only[kD]
            rw[hJ r hm,tQ (qF r hm),he]
            simp only[aw.bE,f1,av,hC]
          · split at hg
            · rename_i dD
              refine .inr ⟨v,mK,db,gT,d1,aT,h1,b4+1,s.i,s.dU,h,b4,a7,H,pre,λr hm=>?_,f2.trans au,?_,⟨_,hf⟩,hg⟩
              · rw[sv,gw]
                simp only[kD]
                rw[hJ r hm,tQ (qF r hm),he]
                simp only[dD,hC,av]
              · exact⟨w.cur,w.le,w.st,w.pl.trans bm.symm,by rw[f2,au,av,bm];exact w.seen⟩
            · cases hg
    · have qF:∀r,Mod r (cd Γ)->dr (eO P need ops r s.i (aw.bE env) s)=some false:=λr hm=>by rw[wH];exact ou.ok hm
      cases gw:kindOf P s.o.op with
      |dA=>
       rw[gw] at hw
       simp only at hw
       split at hw
       · cases hw
       · rename_i kD
         have bQ:l7 P need ops (pre++[s]) (.v (.aF [])::mK) (b4::db) fY h b4 ((s.i,s.dU,h,b4)::a7) H:=
          w.push ag av au bm (λk hk=>rfl) (Nat.le_refl _) w.cur (λz aW=>by
           rcases List.mem_cons.1 aW with rfl|aW
           · exact⟨Nat.le_refl _,w.cur⟩
           · exact eX z aW) (λa8=>by rw[gw] at a8;cases a8)
         have bc:=sw ow rest (pre++[s]) (.v (.aF [])::mK) (b4::db) fY d q h b4 _ H nK bQ hw
         rw[au] at bc
         refine ov.trans (λr hm=>?_) bc
         rw[sv,gw]
         simp only[kD]
         rw[wg (qF r hm)]
         simp only[aw.bE,aw.den,av,hC]
      |alloc=>
       rw[gw] at hw
       simp only at hw
       have bQ:l7 P need ops (pre++[s]) (.v (.aF [])::mK) (b4::db) fY h b4 a7 H:=
        w.push ag av au bm (λk hk=>rfl) (Nat.le_refl _) w.cur eX (λa8=>by rw[gw] at a8;cases a8)
       have bc:=sw ow rest (pre++[s]) (.v (.aF [])::mK) (b4::db) fY d q h b4 a7 H nK bQ hw
       rw[au] at bc
       refine ov.trans (λr hm=>?_) bc
       rw[sv,gw]
       simp only[qF r hm]
       simp only[aw.bE,aw.den,av]
      |pure=>
       rw[gw] at hw
       simp only at hw
       have bQ:l7 P need ops (pre++[s]) (.v (.aF [])::mK) (b4::db) fY h b4 a7 H:=
        w.push ag av au bm (λk hk=>rfl) (Nat.le_refl _) w.cur eX (λ_=>⟨wJ,.inl ou⟩)
       have bc:=sw ow rest (pre++[s]) (.v (.aF [])::mK) (b4::db) fY d q h b4 a7 H nK bQ hw
       rw[au] at bc
       refine ov.trans (λr hm=>?_) bc
       rw[sv,gw]
       simp only
       rw[wg (qF r hm)]
       simp only[aw.bE,aw.den,av]
end
section
variable {P:Program} {need:Nat} {inR:Bool} {call:cJ}
theorem O5{o:Oper}{g:Operand->aw}(ar:zf P o g=true){h h1:J}{v:I}(e:b6 P o (λx=>(g x).den) h=.val v h1)(ah:J):∃aa,b6 P o (λx=>(g x).den) ah=.val v aa:=by
 have gh:∀{w:String} {x:Option I},fb h w x=.val v h1->∃aa,fb ah w x=.val v aa:=λ{w x} e=>by
  cases x with
  |none=>cases e
  |some y=>cases e;exact⟨_,rfl⟩
 obtain⟨dst,op,type,pos,after,guard⟩:=o
 cases op<;>simp only[zf] at ar<;>(try (cases ar;done))<;>unfold b6 at e⊢ <;>simp only at e⊢
 case binOp op t x y yt=>
  split at ar
  · rename_i k a gA b U aP
    rw[U,aP] at e⊢
    simp only[aw.den,ec] at e⊢
    exact gh e
  · rename_i a b U aP
    rw[U,aP] at e⊢
    simp only[aw.den,ec] at e⊢
    exact gh e
  · rw[Bool.and_eq_true] at ar
    rw[aw.oq ar.1,aw.oq ar.2] at e⊢
    have af:ec P ah op t x y (.bool (g x).jQ) (.bool (g y).jQ)=ec P h op t x y (.bool (g x).jQ) (.bool (g y).jQ):=by
     simp only[ec,hq]
    rw[af];exact gh e
 case call c=>
  split at ar
  · rename_i ab
    rw[ab] at e⊢
    simp only[hR] at e⊢
    split at ar
    · rename_i t bk
      rw[bk] at e⊢
      cases gu:c.args.toList.map λx=>(g x).den with
      |nil=>rw[gu] at e;cases e
      |cons x l=>
       rw[gu] at e
       cases l with
       |nil=>
        simp only at e⊢
        split at ar
        · rename_i el hu
          simp only[fO,hu] at e⊢
          cases x<;>simp only at e⊢ <;>exact gh e
        · rename_i hu
          simp only[fO,hu] at e⊢
          cases x<;>simp only at e⊢ <;>exact gh e
        · cases ar
       |cons y l=>
        cases l with
        |nil=>simp only at e;cases e
        |cons z l=>simp only at e;cases e
    · cases ar
  · cases ar
 case typeAssert=>repeat' (first|contradiction|exact gh e|(cases e;done)|(cases e;exact⟨_,rfl⟩)|(cases e;simp_all;done)|split at e)
 all_goals repeat' (first|contradiction|exact gh e|(cases e;exact⟨_,rfl⟩)|(rw[if_pos (by assumption)];first|exact gh e|(cases e;exact⟨_,rfl⟩))|(cases e;done)|split at e)
theorem Hx{K:cq}:∀(l:List aw),(uc l K).p->oc (aw.bE l)=true/\K.p
 |[],h=>⟨rfl,h⟩
 |s::l,h=>by
  have key:s.den.sound=true/\(uc l K).p:=by
   cases s<;>simp only[uc] at h<;>first|exact h|(split at h<;>first|exact⟨by assumption,h⟩|cases h)
  obtain⟨bt,bA⟩:=Hx l key.2
  exact⟨by simp only[aw.bE,oc,key.1,bt,Bool.and_true],bA⟩
theorem Hy{s:aw}{K:cq}(h:(Cx s K).p):s.den.sound=true/\K.p:=by
 cases s<;>simp only[Cx] at h<;>first|exact⟨rfl,h⟩|exact h|skip
 all_goals first
  |exact Hx _ h
  |(split at h
    · rename_i ad;exact⟨ad,h⟩
    · cases h)
theorem wK{o:Oper}{g:Operand->I}{v:I}{ot:Bool}{w:Option (Nat×TypeId×I×I×Nat×I)}{K:cq}:∀(l:List (Option (J×Option Nat))),(pe P o g v ot w l K).p->K.p/\(ot=false->∀h nx,some (h,nx)∈l->j_ P o g h v\/∃j t a c b x e z,w=some (j,t,a,c,b,x)/\nx=some e/\e<j/\ob P t a c b=some (x,z)/\j_ P o g (h.set b (some z)) v)
 |[],h=>⟨h,λ_ _ _ hm=>by cases hm⟩
 |none::l,h=>by
  obtain⟨h1,aa⟩:=wK l h
  exact⟨h1,λaC ah nx hm=>by
   rcases List.mem_cons.1 hm with e|hm
   · cases e
   · exact aa aC ah nx hm⟩
 |some (x,O6)::l,h=>by
  simp only[pe] at h
  cases ot with
  |true=>
   obtain⟨h1,aa⟩:=wK l h
   exact⟨h1,λaC=>by cases aC⟩
  |false=>
   have key:(pe P o g v false w l K).p/\(j_ P o g x v\/∃j t a c b y e z,w=some (j,t,a,c,b,y)/\O6=some e/\e<j/\ob P t a c b=some (y,z)/\j_ P o g (x.set b (some z)) v):=by
    simp only at h
    split at h
    · rename_i j t a c b y e
      split at h
      · rename_i ae
        obtain⟨z,h1,aa,ao⟩:=h
        exact⟨ao,.inr ⟨j,t,a,c,b,y,e,z,rfl,rfl,(by rw[Nat.blt_eq] at ae;exact ae),h1,aa⟩⟩
      · exact⟨h.2,.inl h.1⟩
    · exact⟨h.2,.inl h.1⟩
   obtain⟨h1,aa⟩:=wK l key.1
   exact⟨h1,λaC ah nx hm=>by
    rcases List.mem_cons.1 hm with e|hm
    · cases e;exact key.2
    · exact aa aC ah nx hm⟩
theorem Hz{ops:Array Oper}{r:aN}{n:Nat}{env:List I}{s:DStep}{v:I}{f_:Nat}{H:Nat->J}:∀(a7:l6) (nx:Option Nat) (h:J) (b4:Nat),H b4=h->(∀z∈a7,H z.2.2.2=z.2.2.1)->(∀o∈ud s f_ nx h b4 a7,(match o with|none=>gm P need ops r n env s v (H f_)=true|some (h,nx)=>gm P need ops r n env s v h=true\/gm P need ops r n env s v (lI P need ops r n env s nx h)=true))->j0 P need ops r n env s v nx h (hC a7)=true
 |[],nx,h,b4,af,ad,ar=>by
  simp only[hC]
  rw[yX]
  simp only[ud] at ar
  cases ae:o8 s nx [] with
  |true=>rfl
  |false=>
   rw[show o8 s nx (hC [])=false from ae] at ar
   simp only[Bool.and_true]
   cases aM:Nat.beq b4 f_ with
   |true=>
    have:=ar none (by rw[aM];simp)
    obtain rfl:=Nat.eq_of_beq_eq_true aM
    simp only[af] at this
    rw[this,Bool.true_or]
   |false=>exact Bool.or_eq_true _ _▸ar (some (h,nx)) (by rw[aM];simp)
 |(e,m,ah,kf)::rest,nx,h,b4,af,ad,ar=>by
  simp only[hC]
  rw[yX]
  simp only[ud] at ar
  have bc:=Hz (ops:=ops) (r:=r) (n:=n) (env:=env) (v:=v) rest (some e) ah kf (ad _ List.mem_cons_self) (λz aW=>ad z (List.mem_cons_of_mem _ aW)) λo aQ=>ar o (List.mem_append.2 (.inr aQ))
  simp only[]
  rw[bc,Bool.and_true]
  cases ae:o8 s nx ((e,m,ah)::hC rest) with
  |true=>rfl
  |false=>
   rw[show o8 s nx (hC ((e,m,ah,kf)::rest))=false from ae] at ar
   simp only
   cases aM:Nat.beq b4 f_ with
   |true=>
    have:=ar none (List.mem_append.2 (.inl (by rw[aM];simp)))
    obtain rfl:=Nat.eq_of_beq_eq_true aM
    simp only[af] at this
    rw[this,Bool.true_or]
   |false=>exact Bool.or_eq_true _ _▸ar (some (h,nx)) (List.mem_append.2 (.inl (by rw[aM];simp)))
theorem O7{ops:Array Oper}{r:aN}{n:Nat}{env:List aw}{Γ:cz}(hm:Mod r (cd Γ)){s:DStep}{j e b:Nat}{t:TypeId}{a c x:I}{z:b8}{h:J}(hw:qA P need ops n env Γ s=some (j,t,a,c,b,x))(CG:e<j)(vm:ob P t a c b=some (x,z)):
  lI P need ops r n (aw.bE env) s (some e) h=h.set b (some z):=by
 have ff:∀{y:aw} {acc:Acc},jw n env Γ acc=some y->cv n (aw.bE env) r acc=y.den:=λ{y} {acc} aP=>by
  have:gi n (aw.bE env) (cd Γ) acc=some y.den:=by rw[<-sm,aP];rfl
  exact sn hm this
 unfold qA at hw
 split at hw
 · rename_i src dst u dW
   split at hw
   · rename_i gZ aG
     split at hw
     · rename_i aV ku off m cp ae dg aM
       split at hw
       · rename_i CH l c' aQ an
         split at hw
         · rename_i nq Hq ar ab
           cases hw
           have eH:hs P (.makeSlice t l c') (λy=>cv n (aw.bE env) r (bX P need aV.loc y)) b=some (.slice b off m cp,z):=by
            rw[<-vm,<-ff ar,<-ff ab]
            rfl
           have eb:eO P need ops r n (aw.bE env) aV=none:=by unfold eO;rw[an]
           have ox:(Nat.blt e j&&Nat.testBit s.dU j)=true:=by rw[ae,Bool.and_true,Nat.blt_eq];exact CG
           unfold lI
           simp only[dW,aG,ox,dg,aQ,ff aM,aw.den,eb,dr,eH]
         · cases hw
       · cases hw
     · cases hw
   · cases hw
 · cases hw
theorem CI{ops:Array Oper}{r:aN}{n:Nat}{env:List aw}{db:List Nat}{Γ:cz}(hm:Mod r (cd Γ)){last:Option Nat}{h:J}{b4:Nat}{a7:l6}{H:Nat->J}(hH:H b4=h)(bW:∀z∈a7,H z.2.2.2=z.2.2.1){K:cq}:∀(l:List DStep),(∀s∈l,s.i<n->ue P need ops s n (aw.bE env) (cd Γ) db H)->(kK P need ops n env db Γ last h b4 a7 l K).p->kr P need ops r n (aw.bE env) last h (hC a7) l=true
 |[],_,_=>rfl
 |s::rest,ad,U=>by
  simp only[kr]
  simp only[kK] at U
  have xL:=λ(k:(kK P need ops n env db Γ last h b4 a7 rest K).p)=>CI hm hH bW rest (λz aW=>ad z (List.mem_cons_of_mem _ aW)) k
  split at U
  · rename_i ae gw
    have ag:s.i<n:=by simpa using ae
    obtain⟨_,O8⟩:=ad s List.mem_cons_self ag
    obtain⟨wJ,lS⟩:=O8 gw
    rw[ae,gw]
    simp only
    split at U
    · rename_i v f_ aM lq
      have HA:nth (n-1-s.i) (aw.bE env)=some v.den:=Hg _ _ _ aM
      rw[HA]
      simp only[Option.getD_some]
      have fin:∀(hk:(kK P need ops n env db Γ last h b4 a7 rest K).p),(∀o∈ud s f_ last h b4 a7,(match o with|none=>gm P need ops r n (aw.bE env) s v.den (H f_)=true|some (h,nx)=>gm P need ops r n (aw.bE env) s v.den h=true\/gm P need ops r n (aw.bE env) s v.den (lI P need ops r n (aw.bE env) s nx h)=true))->(j0 P need ops r n (aw.bE env) s v.den last h (hC a7)&&kr P need ops r n (aw.bE env) last h (hC a7) rest)=true:=λhk aQ=>by
       rw[xL hk,Bool.and_true]
       exact Hz a7 last h b4 hH bW aQ
      have both:∀(o:Option (J×Option Nat)),(∀ah,gm P need ops r n (aw.bE env) s v.den ah=true)->(match o with|none=>gm P need ops r n (aw.bE env) s v.den (H f_)=true|some (h,nx)=>gm P need ops r n (aw.bE env) s v.den h=true\/gm P need ops r n (aw.bE env) s v.den (lI P need ops r n (aw.bE env) s nx h)=true):=λo hw=>by
       cases o with
       |none=>exact hw _
       |some z=>exact .inl (hw _)
      split at U
      · rename_i o1
        exact fin U λo aQ=>by rw[o1] at aQ;cases aQ
      · split at U
        ·
         have CJ:dr (eO P need ops r n (aw.bE env) s)=some false->∀ah,gm P need ops r n (aw.bE env) s (aw.den (.v (.aF []))) ah=true:=λhw ah=>by
          unfold gm;rw[hw]
         split at U
         · rename_i a b qz
           have ak:∀(x:aw),jw n env Γ a=some x->eO P need ops r n (aw.bE env) s=some (x.den,b):=λx U=>by
            have ff:gi n (aw.bE env) (cd Γ) a=some x.den:=by rw[<-sm,U];rfl
            rw[wH,qz]
            simp only[Option.map_some,sn hm ff]
           split at U
           · rename_i rT
             exact fin U λo _=>both o (CJ (by rw[ak _ rT];rfl))
           · rename_i rT
             cases b with
             |false=>exact fin U λo _=>both o (CJ (by rw[ak _ rT];rfl))
             |true=>cases U
           · rename_i rT
             cases b with
             |true=>exact fin U λo _=>both o (CJ (by rw[ak _ rT];rfl))
             |false=>cases U
           · cases U
         · cases U
        · rename_i b9
          obtain⟨CK,U⟩:=Hy U
          obtain⟨U,O9⟩:=wK _ U
          have eb:(λx=>(ke P need n env Γ s.loc x).den)=λx=>(gi n (aw.bE env) (cd Γ) (bX P need s.loc x)).getD .bad:=funext λx=>Cz
          refine fin U λo aQ=>?_
          rcases lS v.den f_ HA lq with e|⟨er,e⟩
          · have hw:dr (eO P need ops r n (aw.bE env) s)=some false:=by rw[wH];exact e.ok hm
            exact both o λah=>by unfold gm;rw[hw]
          · have hw:dr (eO P need ops r n (aw.bE env) s)=some true:=by rw[wH];exact er.ok hm
            have look:∀ah,(∃fu,b6 P s.o (λx=>(ke P need n env Γ s.loc x).den) ah=.val v.den fu)->gm P need ops r n (aw.bE env) s v.den ah=true:=λah ⟨fu,e⟩=>by
             have O_:b6 P s.o (λx=>cv n (aw.bE env) r (bX P need s.loc x)) ah=.val v.den fu:=by
              rw[<-e,eb]
              exact vI s.o ah (CA hm wJ)
             unfold gm
             simp only[hw,O_]
             exact rZ _ CK
            rw[<-eb] at e
            cases o with
            |none=>exact look _ e
            |some z=>
             obtain⟨ah,nx⟩:=z
             simp only
             cases af:zf P s.o (ke P need n env Γ s.loc) with
             |true=>
              obtain⟨h1,e⟩:=e
              exact .inl (look ah (O5 af e ah))
             |false=>
              rcases O9 af ah nx aQ with ab|⟨j,t,a,c,b,x,av,z,Pa,rfl,CG,vm,ab⟩
              · exact .inl (look ah ⟨ah,qs ab⟩)
              · right
                rw[O7 hm Pa CG vm]
                exact look _ ⟨_,qs ab⟩
    · cases U
  · rename_i rN
    have U:=xL U
    rw[U,Bool.and_true]
    cases ae:Nat.blt s.i n with
    |false=>rfl
    |true=>
     cases hk:kindOf P s.o.op with
     |pure=>exact absurd hk (rN ae)
     |alloc=>rfl
     |dA=>rfl
theorem CL{ops:Array Oper}{n:Nat}{env:List aw}{db:List Nat}{Γ:cz}{last:Option Nat}{h:J}{b4:Nat}{a7:l6}{K:cq}:∀(l:List DStep),(kK P need ops n env db Γ last h b4 a7 l K).p->K.p
 |[],U=>U
 |s::rest,U=>by
  have bc:(kK P need ops n env db Γ last h b4 a7 rest K).p->K.p:=λk=>CL rest k
  simp only[kK] at U
  split at U
  · split at U
    · split at U
      · exact bc U
      · split at U
        · split at U
          · split at U
            · exact bc U
            · split at U
              · exact bc U
              · cases U
            · split at U
              · exact bc U
              · cases U
            · cases U
          · cases U
        · exact bc (wK _ (Hy U).2).1
    · cases U
  · exact bc U
def HB(P:Program)(need:Nat)(inR:Bool)(call:cJ)(pl:ik)(hB:Nat)(ops:Array Oper)(Γ:cz)(d:List bw)(q:az)(h:J)(K:aU->cz->List bw->az->J->cq):cq:=
 qC P need inR call pl hB ops h.n (ed ops.toList 0 [] []) [] [] Γ d q (h.room ops.size) 0 []
  (λenv db Γ d q h b4 a7=>kK P need ops env.length env db Γ none h b4 a7 (ed ops.toList 0 [] []) (mI (su need env.length env Γ (hT ops.toList 0 []) Γ) λΓ=>K .nrm Γ d q h))
  (λv env db Γ d q h b4 a7=>match a7 with
   |(e,m,aA,uf)::a7=>kK P need ops env.length env db Γ (some e) aA uf a7 (ed ops.toList 0 [] []) (mI (wE (hT ops.toList 0 []) Γ) λΓ=>K (.bu v) Γ d q h)
   |[]=>bad "a panic")
def CM(P:Program)(need:Nat)(rd:Option Nat)(call:cJ)(c:Code)(Γ:cz)(d:List bw)(q:az)(h:J)(K:aU->cz->List bw->az->J->cq):Prop:=∃e cu d' aX ah,dy P need rd call c ⟨cd Γ,d,q,h⟩ e ⟨cd cu,d',aX,ah⟩/\(K e cu d' aX ah).p
theorem Pb{rd:Option Nat}{pl:ik}{hB:Nat}{ops:Array Oper}{Γ:cz}{d:List bw}{q:az}{h:J}{K:aU->cz->List bw->az->J->cq}(U:(HB P need rd.isSome call pl hB ops Γ d q h K).p):CM P need rd call (.region hB ops true) Γ d q h K:=by
 have ow:∀(k:Nat) (s:DStep),(ed ops.toList 0 [] [])[k]? =some s->s.i=k:=λk s ad=>by have:=Ht _ _ _ _ _ _ ad;omega
 have i_:l7 P need ops [] [] [] Γ (h.room ops.size) 0 [] (λ_=>h.room ops.size):=⟨rfl,λ_ hm=>(by cases hm),λ_ hm=>(by cases hm),rfl,λ_ hm=>(by cases hm)⟩
 rcases sw ow (ed ops.toList 0 [] []) [] [] [] Γ d q (h.room ops.size) 0 [] _ rfl i_ U with⟨dS,qE,cu,d',aX,ah,kf,qD,aD,cH,cD,w,hg⟩|⟨v,dS,qE,cu,d',aX,ah,kf,e,m,aA,uf,qj,aD,wI,cH,cD,w,⟨post,a8⟩,hg⟩
 · refine⟨.nrm,_,d',aX,ah,λr hm=>?_,nH (CL _ hg)⟩
   have h1:=cH r hm
   have aa:=CI (r:=r) (by rw[cD];exact hm) w.cur (λz aW=>(w.st z aW).2) _ (λs ad _=>w.seen s ad) hg
   refine⟨_,?_,CE (by rw[cD];exact hm) _ _ _ (by rw[cD];exact hm)⟩
   have ft:fB P need rd.isSome call ops r h.n (ed ops.toList 0 [] []) [] d q ⟨h.t,h.n+ops.size⟩ []=.ok (aw.bE dS) d' aX ah (hC qD):=h1
   simp only[cX,q5,ft,zg,aa,lJ]
 · refine⟨.bu v,_,d',aX,ah,λr hm=>?_,nH (CL _ hg)⟩
   have h1:=cH r hm
   have Pc:∀s∈ed ops.toList 0 [] [],s.i<dS.length->ue P need ops s dS.length (aw.bE dS) (cd cu) qE aD:=λs ad ag=>by
    refine w.seen s ?_
    obtain⟨k,hk,tA⟩:=List.getElem_of_mem ad
    have XG:s.i=k:=ow k s (by rw[List.getElem?_eq_getElem hk,tA])
    have Pd:k<wI.length:=by rw[w.pl];omega
    have:(wI++post)[k]? =some s:=by rw[<-a8,List.getElem?_eq_getElem hk,tA]
    rw[List.getElem?_append_left Pd] at this
    exact List.mem_of_getElem? this
   have aa:=CI (r:=r) (by rw[cD];exact hm) w.cur (λz aW=>(w.st z aW).2) _ Pc hg
   refine⟨_,?_,CF _ _ _ (by rw[cD];exact hm)⟩
   have ft:fB P need rd.isSome call ops r h.n (ed ops.toList 0 [] []) [] d q ⟨h.t,h.n+ops.size⟩ []=.bu v (aw.bE dS) d' aX ah ((e,m,aA)::hC qj):=h1
   simp only[cX,q5,ft,zg,aa,lJ]
end
abbrev sx:=aU->cz->List bw->az->J->cq
def zh(P:Program):List (Nat×jx)->(cz->cq)->cq
 |[],K=>K []
 |(t,s)::l,K=>shape P 9 s λx=>zh P l λΓ=>K ((t,x)::Γ)
def CN(P:Program)(d:List bw)(q:az)(K:sx)(ey:aU)(fK:aB):List (aU×List (Nat×jx))->cq
 |[]=>bad "loop"
 |[(e,rs)]=>zh P rs λfI=>fJ λg:J=>fJ λcu:Env=>e7 (ey=e) (e7 (fK=⟨cu,d,q,g⟩) (e7 (eI (cd fI) cu) (K e fI d q g)))
 |(e,rs)::l=>.mk ((zh P rs λfI=>fJ λg:J=>fJ λcu:Env=>e7 (ey=e) (e7 (fK=⟨cu,d,q,g⟩) (e7 (eI (cd fI) cu) (K e fI d q g)))).p\/(CN P d q K ey fK l).p)
def Pe:Operand->Nat
 |.tmp t=>t
 |_=>999
def zi(P:Program)(call:cJ)(fn:Func)(pl:ik)(fk:Nat)(path:List Nat)(Γ:cz)(d:List bw)(q:az)(h:J)(K:sx):cq:=match sh (4000+fk) pl with
 |some (.hM ins outs)=>.mk (bU P fn call path ⟨lZ (cd Γ) ins,d,q,h⟩ λey fK=>(CN P d q K ey fK outs).p)
 |_=>bad "loop"
def l8(P:Program)(call:cJ)(fn:Func)(need:Nat)(pl:ik):Code->Nat->List Nat->cz->List bw->az->J->sx->cq
 |.skip,_,_,Γ,d,q,h,K=>K .nrm Γ d q h
 |.label _,_,_,Γ,d,q,h,K=>K .nrm Γ d q h
 |.exit id,_,_,Γ,d,q,h,K=>K (.exit id) Γ d q h
 |.ret,_,_,Γ,d,q,h,K=>K .ret Γ d q h
 |.scope b,fk,p,Γ,d,q,h,K=>l8 P call fn need pl b fk (p++[0]) Γ d q h K
 |.region id ops draw,_,_,Γ,d,q,h,K=>match draw with
  |false=>wD P need false call pl id (kX P need ops).steps [] Γ d q h
   (λenv Γ d q h=>mI (su need env.length env Γ (kX P need ops).loc Γ) λΓ=>K .nrm Γ d q h)
   (λv Γ d q h=>mI (wE (kX P need ops).loc Γ) λΓ=>K (.bu v) Γ d q h)
  |true=>HB P need false call pl id ops Γ d q h K
 |.seq a b,fk,p,Γ,d,q,h,K=>l8 P call fn need pl a fk (p++[0]) Γ d q h λe Γ d q h=>match e with
  |.nrm=>l8 P call fn need pl b fk (p++[1]) Γ d q h K
  |e=>K e Γ d q h
 |.cond c a b,fk,p,Γ,d,q,h,K=>match jw 0 [] Γ (bX P need [] c) with
  |none=>bad "if"
  |some s=>s.oj (y_ (sh (1000+Pe c) pl)) (mI (sg (bX P need [] c) .fj Γ) λΓ=>l8 P call fn need pl a fk (p++[0]) Γ d q h K) (mI (sg (bX P need [] c) .et Γ) λΓ=>l8 P call fn need pl b fk (p++[1]) Γ d q h K)
 |.block id b,_,p,Γ,d,q,h,K=>l8 P call fn need pl b id (p++[0]) Γ d q h λe Γ d q h=>match e with
  |.exit i=>match Nat.beq i id with
   |true=>K .nrm Γ d q h
   |false=>K (.exit i) Γ d q h
  |e=>K e Γ d q h
 |.loop _,fk,p,Γ,d,q,h,K=>zi P call fn pl fk p Γ d q h K
 |.rangeFunc _ _ _ _,fk,p,Γ,d,q,h,K=>zi P call fn pl (500+fk) p Γ d q h K
 |_,_,_,_,_,_,_,_=>bad "code"
section
variable {P:Program} {call:cJ} {fn:Func}
theorem CO:∀(l:List (Nat×jx)) {K:cz->cq},(zh P l K).p->∃Γ,(K Γ).p
 |[],K,h=>⟨[],h⟩
 |(t,s)::l,K,h=>by
  obtain⟨x,h⟩:=sq h
  obtain⟨Γ,h⟩:=CO l h
  exact⟨_,h⟩
theorem HC{d:List bw}{q:az}{K:sx}{ey:aU}{fK:aB}:∀(l:List (aU×List (Nat×jx))),(CN P d q K ey fK l).p->∃fI cu g,fK=⟨cu,d,q,g⟩/\eI (cd fI) cu/\(K ey fI d q g).p
 |[],h=>by cases h
 |[(e,rs)],h=>by
  obtain⟨fI,g,cu,rfl,aa,ao,aI⟩:=CO _ h
  exact⟨fI,cu,g,aa,ao,aI⟩
 |(e,rs)::y::l,h=>by
  rcases h with h|h
  · obtain⟨fI,g,cu,rfl,aa,ao,aI⟩:=CO _ h
    exact⟨fI,cu,g,aa,ao,aI⟩
  · exact HC (y::l) h
theorem zj(Γ:Env):∀l:List Nat,eI (lZ Γ l) Γ
 |[]=>trivial
 |t::l=>by
  simp only[lZ]
  cases h:c4 t Γ with
  |none=>exact zj Γ l
  |some v=>exact⟨h,zj Γ l⟩
theorem HD{pl:ik}{fk:Nat}{p:List Nat}{Γ:cz}{d:List bw}{q:az}{h:J}{K:sx}(U:(zi P call fn pl fk p Γ d q h K).p):CM P (bG fn) none call (sub (c5 fn) p) Γ d q h K:=by
 unfold zi at U
 split at U
 · obtain⟨e,st,aj,bj⟩:=U
   obtain⟨fI,cu,g,rfl,ao,aI⟩:=HC _ bj
   have h1:dy P (bG fn) none call (sub (c5 fn) p) ⟨cd Γ,d,q,h⟩ e ⟨cu,d,q,g⟩:=dy.pre (st1:=⟨cd Γ,d,q,h⟩) aj (zj _ _) rfl rfl rfl
   exact⟨e,fI,d,q,g,dy.post h1 ao,aI⟩
 · cases U
theorem qG{pl:ik}:∀(c:Code) (fk:Nat) (p:List Nat) (Γ:cz) (d:List bw) (q:az) (h:J) (K:sx),sub (c5 fn) p=c->(l8 P call fn (bG fn) pl c fk p Γ d q h K).p->CM P (bG fn) none call c Γ d q h K
 |.skip,fk,p,Γ,d,q,h,K,ab,U=>⟨.nrm,Γ,d,q,h,λr aj=>⟨r,rfl,aj⟩,U⟩
 |.label _,fk,p,Γ,d,q,h,K,ab,U=>⟨.nrm,Γ,d,q,h,λr aj=>⟨r,rfl,aj⟩,U⟩
 |.exit id,fk,p,Γ,d,q,h,K,ab,U=>⟨.exit id,Γ,d,q,h,λr aj=>⟨r,rfl,aj⟩,U⟩
 |.ret,fk,p,Γ,d,q,h,K,ab,U=>⟨.ret,Γ,d,q,h,λr aj=>⟨r,rfl,aj⟩,U⟩
 |.scope b,fk,p,Γ,d,q,h,K,ab,U=>qG b fk (p++[0]) Γ d q h K (by rw[ig,ab];simp[sub]) U
 |.region id ops draw,fk,p,Γ,d,q,h,K,ab,U=>by
  simp only[l8] at U
  cases draw with
  |true=>exact Pb U
  |false=>
   rcases CD _ _ _ _ _ _ U with⟨dS,cu,d',aX,ah,cH,cD,hg⟩|⟨v,cu,d',aX,ah,cH,cD,hg⟩
   · refine⟨.nrm,_,d',aX,ah,λr aj=>⟨_,?_,CE (by rw[cD];exact aj) _ _ _ (by rw[cD];exact aj)⟩,nH hg⟩
     have h1:hr P (bG fn) false call r (kX P (bG fn) ops).steps [] d q h=.ok (aw.bE dS) d' aX ah:=cH r aj
     simp only[cX,Option.isSome_none,h1,lJ,zg]
   · refine⟨.bu v,_,d',aX,ah,λr aj=>⟨_,?_,CF _ _ _ (by rw[cD];exact aj)⟩,nH hg⟩
     have h1:hr P (bG fn) false call r (kX P (bG fn) ops).steps [] d q h=.bu v d' aX ah:=cH r aj
     simp only[cX,Option.isSome_none,h1,lJ]
 |.seq a b,fk,p,Γ,d,q,h,K,ab,U=>by
  obtain⟨e,fY,d1,aT,h1,ba,bt⟩:=qG a fk (p++[0]) Γ d q h _ (by rw[ig,ab];simp[sub]) U
  by_cases he:e=.nrm
  · subst he
    obtain⟨au,gT,d2,bb,aa,bH,bA⟩:=qG b fk (p++[1]) fY d1 aT h1 K (by rw[ig,ab];simp[sub]) bt
    refine⟨au,gT,d2,bb,aa,λr aj=>?_,bA⟩
    obtain⟨eN,gE,kM⟩:=ba r aj
    obtain⟨CP,HE,Pf⟩:=bH eN kM
    exact⟨CP,by simp only at gE HE;simp only[cX,gE,oN,HE],Pf⟩
  · refine⟨e,fY,d1,aT,h1,λr aj=>?_,by cases e<;>first|exact absurd rfl he|exact bt⟩
    obtain⟨eN,gE,kM⟩:=ba r aj
    exact⟨eN,by simp only[cX,gE];exact rC he,kM⟩
 |.cond c a b,fk,p,Γ,d,q,h,K,ab,U=>by
  simp only[l8] at U
  split at U
  · cases U
  · rename_i s ad
    have ff:gi 0 [] (cd Γ) (bX P (bG fn) [] c)=some s.den:=by rw[show([]:List I)=aw.bE [] from rfl,<-sm,ad];rfl
    obtain⟨ae,aP⟩:=zc _ U
    have ak:=aw.oq ae
    rcases aP with⟨bk,hk⟩|⟨bk,hk⟩
    · rw[bk] at ak
      obtain⟨_,au,_⟩:=ua (x:=.fj) ad ak
      obtain⟨e,fY,d1,aT,h1,ba,bt⟩:=qG a fk (p++[0]) _ d q h K (by rw[ig,ab];simp[sub]) (nH hk)
      refine⟨e,fY,d1,aT,h1,λr aj=>?_,bt⟩
      obtain⟨eN,gE,kM⟩:=ba r (by rw[au];exact aj)
      exact⟨eN,by simp only at gE;simp only[cX,sn aj ff,ak,gE],kM⟩
    · rw[bk] at ak
      obtain⟨_,au,_⟩:=ua (x:=.et) ad ak
      obtain⟨e,fY,d1,aT,h1,ba,bt⟩:=qG b fk (p++[1]) _ d q h K (by rw[ig,ab];simp[sub]) (nH hk)
      refine⟨e,fY,d1,aT,h1,λr aj=>?_,bt⟩
      obtain⟨eN,gE,kM⟩:=ba r (by rw[au];exact aj)
      exact⟨eN,by simp only at gE;simp only[cX,sn aj ff,ak,gE],kM⟩
 |.block id b,fk,p,Γ,d,q,h,K,ab,U=>by
  obtain⟨e,fY,d1,aT,h1,ba,bt⟩:=qG b id (p++[0]) Γ d q h _ (by rw[ig,ab];simp[sub]) U
  cases e with
  |exit i=>
   simp only at bt
   cases ag:Nat.beq i id with
   |true=>
    rw[ag] at bt
    obtain rfl:=Nat.eq_of_beq_eq_true ag
    exact⟨.nrm,fY,d1,aT,h1,λr aj=>by
     obtain⟨eN,gE,kM⟩:=ba r aj
     exact⟨eN,by simp only at gE;simp only[cX,gE,if_true],kM⟩,bt⟩
   |false=>
    rw[ag] at bt
    have b9:¬i=id:=by intro cw;subst cw;simp at ag
    exact⟨.exit i,fY,d1,aT,h1,λr aj=>by
     obtain⟨eN,gE,kM⟩:=ba r aj
     exact⟨eN,by simp only at gE;simp only[cX,gE,if_neg b9],kM⟩,bt⟩
  |_=>
   exact⟨_,fY,d1,aT,h1,λr aj=>by
    obtain⟨eN,gE,kM⟩:=ba r aj
    exact⟨eN,by simp only at gE;simp only[cX,gE],kM⟩,bt⟩
 |.loop b,fk,p,Γ,d,q,h,K,ab,U=>by
  have:=HD U;rw[ab] at this;exact this
 |.rangeFunc f ps as b2,fk,p,Γ,d,q,h,K,ab,U=>by
  have:=HD U;rw[ab] at this;exact this
 |.goto _,fk,p,Γ,d,q,h,K,ab,U=>by simp only[l8] at U;cases U
 |.refuse _,fk,p,Γ,d,q,h,K,ab,U=>by simp only[l8] at U;cases U
def zk(P:Program)(fn:Func)(call:cJ)(pl:ik)(eM:List Nat)(path:List Nat)(Γ:cz)(d:List bw)(q:az)(h:J)(Q:aU->aB->Prop):Prop:=
 (l8 P call fn (bG fn) pl (sub (c5 fn) path) 0 path Γ d q h λe Γ d q h=>.mk (Q e ⟨lZ (cd Γ) eM,d,q,h⟩)).p
theorem HF(pl:ik)(eM:List Nat)(Γ:cz){cu:Env}{path:List Nat}{d:List bw}{q:az}{h:J}{Q:aU->aB->Prop}(fL:cd Γ=cu)(H:zk P fn call pl eM path Γ d q h Q):bU P fn call path ⟨cu,d,q,h⟩ Q:=by
 subst fL
 obtain⟨e,fY,d1,aT,h1,ba,bt⟩:=qG _ 0 path Γ d q h _ rfl H
 exact⟨e,_,dy.post ba (zj _ eM),bt⟩
def HG(P:Program)(fn:Func)(R:bM->Prop):sx:=λe Γ d q h=>match d with
 |[]=>match e with
  |.bu v=>.mk (R (.bu v h))
  |.ret|.nrm=>match hL P (bG fn) fn (cd Γ) h with
   |some v=>.mk (R (.ret v h))
   |none=>bad "results"
  |_=>bad "end"
 |_=>bad "deferred"
def zl(P:Program)(fn:Func)(call:cJ)(pl:ik)(Γ:cz)(h:J)(R:bM->Prop):Prop:=
 (l8 P call fn (bG fn) pl (c5 fn) 0 [] Γ [] .none h (HG P fn R)).p
theorem HH{intr:Nat->List I->J->Option (I×J)}{f n:Nat}{args:List I}{h:J}{R:bM->Prop}(pl:ik)(Γ:cz)(hf:P.funcs[f]? =some fn)(ae:fn.body.isSome=true)(ag:intr f args h=none)(hle:Nat.ble args.length fn.ntmps=true)(fL:cd Γ=ie 0 args)(H:zl P fn (cF P intr n) pl Γ h R):R (cF P intr (n+1) (.fn f) args h):=by
 refine tW hf ae ag hle (Q:=λe s=>s.d=[]/\((∃v,e=.bu v/\R (.bu v s.h))\/((e=.ret\/e=.nrm)/\∃v,hL P (bG fn) fn s.Γ s.h=some v/\R (.ret v s.h)))) ?_ λe s bj=>?_
 · have ad:sub (c5 fn) []=c5 fn:=by cases c5 fn<;>rfl
   obtain⟨e,fY,d1,aT,h1,ba,bt⟩:=qG (c5 fn) 0 [] Γ [] .none h _ ad H
   rw[fL] at ba
   refine⟨e,⟨cd fY,d1,aT,h1⟩,by unfold aZ;rw[ad];exact ba,?_⟩
   unfold HG at bt
   split at bt
   · refine⟨rfl,?_⟩
     split at bt
     · exact .inl ⟨_,rfl,bt⟩
     · split at bt
       · rename_i v aM;exact .inr ⟨.inl rfl,v,aM,bt⟩
       · cases bt
     · split at bt
       · rename_i v aM;exact .inr ⟨.inr rfl,v,aM,bt⟩
       · cases bt
     · cases bt
   · cases bt
 · obtain⟨ak,bj⟩:=bj
   rcases bj with⟨v,rfl,aj⟩|⟨he,v,aM,aj⟩
   · exact .inr ⟨v,rfl,ak,aj⟩
   · exact .inl ⟨he,ak,v,aM,aj⟩
end
attribute [irreducible] zk zl
@[reducible] def ai (n:Nat):I:=.int .i64 (.ofNat n)
@[reducible] def aK (n:Nat):I:=.int .u64 (.ofNat n)
@[reducible] def dx (n:Nat):I:=.int .u8 (.ofNat n)
@[reducible] def aq (b:Nat):I:=.ptr b 0
@[reducible] def ay (l:List I) (t:Nat):b8:=.cells l t .own 0 0
@[reducible] def eu (a b:Nat):Bool:=eC (.ofNat a) (.ofNat b)
@[reducible] def eJ (a b:Nat):Bool:=dP (.ofNat a) (.ofNat b)
@[reducible] def dT (a b:Nat):Bool:=hp (.ofNat a) (.ofNat b)
abbrev l9(v:I):Prop:=I.sound v=true
abbrev sy(v:I):Prop:=I.ca v=true
@[reducible] def aR (Γ:Env) (h:J):aB:=⟨Γ,[],.none,h⟩
@[reducible] def hi (Γ:Env) (h:J):aB:=⟨Γ,[],.none,h⟩
def wL(os:List Nat):Env->cz
 |[]=>[]
 |(k,v)::l=>(k,if os.any (Nat.beq k) then aw.o v else aw.v v)::wL os l
theorem CQ(os:List Nat):∀Γ:Env,cd (wL os Γ)=Γ
 |[]=>rfl
 |(k,v)::l=>by
  show(k,aw.den (if os.any (Nat.beq k) then aw.o v else aw.v v))::cd (wL os l)=(k,v)::l
  rw[CQ os l]
  split<;>rfl
theorem du{P:Program}{fn:Func}{call:cJ}(pl:ik)(eM os:List Nat){Γ:Env}{path:List Nat}{d:List bw}{q:az}{h:J}{Q:aU->aB->Prop}{X:Prop}(H:X)(e:X=zk P fn call pl eM path (wL os Γ) d q h Q:=by kernel_rfl):bU P fn call path ⟨Γ,d,q,h⟩ Q:=HF pl eM _ (CQ os Γ) (Eq.mp e H)
theorem fv{P:Program}{fn:Func}{intr:Nat->List I->J->Option (I×J)}{f n:Nat}{args:List I}{h:J}{R:bM->Prop}(pl:ik)(os:List Nat)(hf:P.funcs[f]? =some fn){X:Prop}(H:X)(ae:fn.body.isSome=true:=by kernel_rfl)(ag:intr f args h=none:=by kernel_rfl)(hle:Nat.ble args.length fn.ntmps=true:=by kernel_rfl)(e:X=zl P fn (cF P intr n) pl (wL os (ie 0 args)) h R:=by kernel_rfl):R (cF P intr (n+1) (.fn f) args h):=HH pl _ hf ae ag hle (CQ os _) (Eq.mp e H)
theorem HI{P:Program}{fn:Func}{call:cJ}(pl:ik)(eM:List Nat)(Γ:cz){cu:Env}{path:List Nat}{d:List bw}{q:az}{h:J}{Q:aU->aB->Prop}{X:Prop}(H:X)(fL:cd Γ=cu:=by rfl)(e:X=zk P fn call pl eM path Γ d q h Q:=by kernel_rfl):bU P fn call path ⟨cu,d,q,h⟩ Q:=HF pl eM Γ fL (Eq.mp e H)
theorem HJ{P:Program}{fn:Func}{intr:Nat->List I->J->Option (I×J)}{f n:Nat}{args:List I}{h:J}{R:bM->Prop}(pl:ik)(Γ:cz)(hf:P.funcs[f]? =some fn){X:Prop}(H:X)(ae:fn.body.isSome=true:=by kernel_rfl)(ag:intr f args h=none:=by kernel_rfl)(hle:Nat.ble args.length fn.ntmps=true:=by kernel_rfl)(fL:cd Γ=ie 0 args:=by rfl)(e:X=zl P fn (cF P intr n) pl Γ h R:=by kernel_rfl):R (cF P intr (n+1) (.fn f) args h):=HH pl Γ hf ae ag hle fL (Eq.mp e H)
end aS
