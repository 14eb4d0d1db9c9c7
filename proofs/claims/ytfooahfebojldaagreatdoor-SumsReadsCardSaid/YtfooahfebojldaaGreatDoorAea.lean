/-
  THE ABSTRACT EVALUATOR (the evaluator's definitions; values and memory): a deterministic semantics of loaded code, and the proof that its runs are runs of the program in the model, whatever the tape draws. No condition.
-/
import GoSem.Step
import Derived.Calls
import Derived.Laws.Sem
import Derived.Laws.World
set_option linter.unusedVariables false
set_option linter.unusedSimpArgs false
namespace aC
open Go
inductive cE where
 |exact(n:Nat)
 |a5 (g_:Nat)
 |dead
inductive J where
 |bad
 |bool (b:Bool)
 |int (k:IntKind) (n:Int)
 |str (s:List UInt8)
 |bb
 |ptr (b off:Nat)
 |aA
 |slice (b off len:Nat) (cap:cE)
 |iR
 |map (r:Nat)
 |gj
 |fn (f:Nat) (first caps:List J)
 |ca (l:Nat)
 |fy
 |iface (t:Nat) (v:J)
 |agg (cs:List J)
 |aL (vs:List J)
 deriving Inhabited
def J.cu:J->Bool
 |.bad|.agg _|.aL _=>false
 |_=>true
def J.cells:J->List J
 |.agg cs=>cs
 |v=>[v]
inductive iS where
 |here|l (p:iS)|r (p:iS)
inductive a0 where
 |leaf
 |node (l:a0) (v:J) (r:a0)
def xi:Nat->Nat->iS
 |0,_=>.here
 |f+1,n=>match n with
  |0=>.here
  |m+1=>match Nat.mod m 2 with
   |0=>.l (xi f (Nat.div m 2))
   |_=>.r (xi f (Nat.div m 2))
def hP(n:Nat):iS:=xi n n
def a0.get:iS->a0->J
 |.here,.node _ v _=>v
 |.l p,.node l _ _=>get p l
 |.r p,.node _ _ r=>get p r
 |_,.leaf=>.bad
def a0.CX(l:a0)(v:J)(r:a0):a0:=match l with
 |.leaf=>.node .leaf v r
 |.node a b c=>.node (.node a b c) v r
def a0.CY(l:a0)(v:J)(r:a0):a0:=match r with
 |.leaf=>.node l v .leaf
 |.node a b c=>.node l v (.node a b c)
def a0.set:iS->J->a0->a0
 |.here,x,.node l _ r=>.node l x r
 |.here,x,.leaf=>.node .leaf x .leaf
 |.l p,x,.node l v r=>a0.CX (set p x l) v r
 |.l p,x,.leaf=>a0.CX (set p x .leaf) .bad .leaf
 |.r p,x,.node l v r=>a0.CY l v (set p x r)
 |.r p,x,.leaf=>a0.CY .leaf .bad (set p x .leaf)
inductive eE where
 |own|a5|ro|fz
 deriving DecidableEq
structure hC where
 key:J
 val:J
 born:Nat
inductive bU where
 |call (f:Nat) (args:List J)
 |collected (r:Nat)
inductive cJ where
 |cells (cs:List J) (el:Nat) (k:eE) (lo hi:Nat)
 |map (es:List hC) (clock:Nat)
 |rI (s:List UInt8) (pos:Nat)
 |mapIter (m:Option Nat) (since:Nat) (seen:List Nat) (last:Nat)
 |loop (st:LoopState) (gJ:Option Code) (fn:Nat) (m6:a0) (params:List Nat) (assign body:Code) (defers:Nat)
 |defrd (calls:Option (List bU))
 |raw (o:Obj)
inductive fJ where
 |leaf
 |node (l:fJ) (v:Option cJ) (r:fJ)
def fJ.get:fJ->Nat->Option cJ
 |.leaf,_=>none
 |.node l v r,n=>match n with
  |0=>v
  |m+1=>match Nat.mod m 2 with
   |0=>get l (Nat.div m 2)
   |_=>get r (Nat.div m 2)
def fJ.l6:Nat->fJ->Nat->Option cJ->fJ
 |0,t,_,_=>t
 |f+1,.leaf,n,x=>match n with
  |0=>.node .leaf x .leaf
  |m+1=>match Nat.mod m 2 with
   |0=>.node (l6 f .leaf (Nat.div m 2) x) none .leaf
   |_=>.node .leaf none (l6 f .leaf (Nat.div m 2) x)
 |f+1,.node l v r,n,x=>match n with
  |0=>.node l x r
  |m+1=>match Nat.mod m 2 with
   |0=>.node (l6 f l (Nat.div m 2) x) v r
   |_=>.node l v (l6 f r (Nat.div m 2) x)
structure aa where
 t:fJ
 n:Nat
def aa.get(h:aa)(b:Nat):Option cJ:=h.t.get b
def aa.set(h:aa)(b:Nat)(o:Option cJ):aa:=⟨fJ.l6 (b+1) h.t b o,h.n⟩
def aa.push(h:aa)(o:cJ):aa:=⟨fJ.l6 (h.n+1) h.t h.n (some o),h.n+1⟩
inductive fc where
 |val (v:J) (h:aa)
 |bp (v:J) (h:aa)
 |call (f:Nat) (args:List J) (h:aa)
 |ca (l:Nat) (args:List J) (h:aa)
 |j8 (d:bU)
 |s_
 |fail (jL:String)
inductive ao where
 |ret (v:J) (h:aa)
 |bp (v:J) (h:aa)
 |fail (jL:String)
mutual
def oF:Value->J
 |.bool b=>.bool b
 |.int k n=>.int k n
 |.string s=>.str s.data.toList
 |.pointer none=>.bb
 |.slice none 0 0=>.aA
 |.map none=>.iR
 |.nilFunc=>.gj
 |.nilIface=>.fy
 |.agg ⟨cs⟩=>.agg (z3 cs)
 |.tuple ⟨vs⟩=>.aL (z3 vs)
 |_=>.bad
def z3:List Value->List J
 |[]=>[]
 |v::vs=>oF v::z3 vs
end
def nth{α:Type}:Nat->List α->Option α
 |_,[]=>none
 |0,a::_=>some a
 |n+1,_::l=>nth n l
def takeN:Nat->List J->Option (List J)
 |0,_=>some []
 |_+1,[]=>none
 |n+1,a::l=>match takeN n l with
  |some r=>some (a::r)
  |none=>none
def jB{α:Type}:Nat->List α->List α
 |0,l=>l
 |_+1,[]=>[]
 |n+1,_::l=>jB n l
def cF:List UInt8->List UInt8->Bool
 |[],[]=>true
 |a::x,b::y=>match Nat.beq a.toNat b.toNat with
  |true=>cF x y
  |false=>false
 |_,_=>false
def en:List UInt8->List UInt8->Bool
 |_,[]=>false
 |[],_::_=>true
 |a::x,b::y=>match Nat.beq a.toNat b.toNat with
  |true=>en x y
  |false=>Nat.blt a.toNat b.toNat
def br(x y:Int):Bool:=decide (x<y)
def dq(x y:Int):Bool:=decide (x<=y)
def ba(x y:Int):Bool:=x==y
def loadCells(h:aa)(b off n:Nat):Option (List J):=
 match h.get b with
 |some (.cells cs _ _ _ _)=>takeN n (jB off cs)
 |_=>none
def av(h:aa)(b off:Nat):Option J:=
 match h.get b with
 |some (.cells cs _ _ _ _)=>nth off cs
 |_=>none
def j9(k:eE)(lo hi off n:Nat):Bool:=
 match k with
 |.ro|.fz=>false
 |_=>Nat.ble hi lo||Nat.ble (off+n) lo||Nat.ble hi off
def eP:Nat->List J->List J->Option (List J)
 |0,[],cs=>some cs
 |0,_::_,[]=>none
 |0,v::vs,_::cs=>match v.cu with
  |true=>match eP 0 vs cs with
   |some r=>some (v::r)
   |none=>none
  |false=>none
 |_+1,[],cs=>some cs
 |_+1,_::_,[]=>none
 |n+1,vs,c::cs=>match eP n vs cs with
  |some r=>some (c::r)
  |none=>none
def storeCells(h:aa)(b off:Nat)(vs:List J):Option aa:=
 match h.get b with
 |some (.cells cs el k lo hi)=>
  match j9 k lo hi off vs.length with
  |true=>match eP off vs cs with
   |some b9=>some (h.set b (some (.cells b9 el k lo hi)))
   |none=>none
  |false=>none
 |_=>none
def newRow(h:aa)(el:Nat)(cs:List J):Option (Nat×aa):=
 match cs.all J.cu with
 |true=>some (h.n,h.push (.cells cs el .own 0 0))
 |false=>none
def m7(P:Program)(t:TypeId):Option Bool:=
 match P.underlying t with
 |some (.struct _)=>some true
 |some (.array _ _)=>some true
 |some _=>some false
 |none=>none
def dQ(P:Program)(t:TypeId):Option Nat:=match P.info? t with
 |some i=>some i.size
 |none=>none
def fq(P:Program)(t:TypeId):Option J:=match P.info? t with
 |some i=>match i.zero with
  |some z=>match oF z with
   |.bad=>none
   |a=>some a
  |none=>none
 |none=>none
def l7(P:Program)(t:TypeId)(cs:List J)(off:Nat):Option J:=
 match m7 P t,dQ P t with
 |some true,some n=>match takeN n (jB off cs) with
  |some r=>some (.agg r)
  |none=>none
 |some false,_=>nth off cs
 |_,_=>none
def mw(place:Nat->Option (Nat×Nat))(cells:List J):List (Nat×J)->Option (List J)
 |[]=>some cells
 |(i,v)::rest=>
  match v with
  |.bad=>none
  |v=>match place i with
   |none=>none
   |some (off,size)=>
    match Nat.beq v.cells.length size&&Nat.ble (off+size) cells.length with
    |true=>match eP off v.cells cells with
     |some Ow=>mw place Ow rest
     |none=>none
    |false=>none
def gv{α:Type}:Nat->List α->List α
 |0,_=>[]
 |n+1,l=>l++gv n l
def eqFields(P:Program)(E:TypeId->J->J->Option Bool)(xs ys:List J):List Field->Option Bool
 |[]=>some true
 |f::dm=>match decide (f.name= "_") with
  |true=>eqFields P E xs ys dm
  |false=>match l7 P f.type xs f.offset,l7 P f.type ys f.offset with
   |some a,some b=>match E f.type a b with
    |some true=>eqFields P E xs ys dm
    |r=>r
   |_,_=>none
def xj(P:Program)(E:TypeId->J->J->Option Bool)(e:TypeId)(sz:Nat)(xs ys:List J):Nat->Nat->Option Bool
 |0,_=>some true
 |n+1,i=>match l7 P e xs (i*sz),l7 P e ys (i*sz) with
  |some a,some b=>match E e a b with
   |some true=>xj P E e sz xs ys n (i+1)
   |r=>r
  |_,_=>none
def CZ(h:aa)(a i b j:Nat):Option Bool:=
 match Nat.beq a b with
 |true=>some (Nat.beq i j)
 |false=>match h.get a,h.get b with
  |some (.cells _ _ .own 0 0),some (.cells _ _ .own 0 0)=>some false
  |_,_=>none
def iT(P:Program)(h:aa):Nat->TypeId->J->J->Option Bool
 |0,_,_,_=>none
 |d+1,t,x,y=>
  match P.underlying t with
  |none=>none
  |some .bool=>match x,y with
   |.bool a,.bool b=>some (a==b)
   |_,_=>none
  |some (.int _)=>match x,y with
   |.int j a,.int k b=>if j=k then some (ba a b) else none
   |_,_=>none
  |some .string=>match x,y with
   |.str a,.str b=>some (cF a b)
   |_,_=>none
  |some (.pointer e)=>match x,y with
   |.bb,.bb=>some true
   |.bb,.ptr _ _=>some false
   |.ptr _ _,.bb=>some false
   |.ptr a i,.ptr b j=>match dQ P e with
    |some (_+1)=>CZ h a i b j
    |_=>none
   |_,_=>none
  |some (.slice _)=>match x,y with
   |.aA,.aA=>some true
   |.aA,.slice _ _ _ _=>some false
   |.slice _ _ _ _,.aA=>some false
   |_,_=>none
  |some (.map _ _)=>match x,y with
   |.iR,.iR=>some true
   |.iR,.map _=>some false
   |.map _,.iR=>some false
   |_,_=>none
  |some (.func _ _ _)=>match x,y with
   |.gj,.gj=>some true
   |.gj,.fn _ _ _=>some false
   |.fn _ _ _,.gj=>some false
   |_,_=>none
  |some (.interface _)=>match x,y with
   |.fy,.fy=>some true
   |.fy,.iface _ _=>some false
   |.iface _ _,.fy=>some false
   |.iface a v,.iface b w=>match Nat.beq a b with
    |false=>some false
    |true=>match P.info? a with
     |some i=>match i.comparable with
      |true=>iT P h d a v w
      |false=>none
     |none=>none
   |_,_=>none
  |some (.struct dm)=>match x,y with
   |.agg xs,.agg ys=>match P.stoodInHeld t with
    |true=>none
    |false=>eqFields P (iT P h d) xs ys dm.toList
   |_,_=>none
  |some (.array n e)=>match x,y with
   |.agg xs,.agg ys=>match dQ P e with
    |some sz=>xj P (iT P h d) e sz xs ys n 0
    |none=>none
   |_,_=>none
  |some _=>none
def rJ(P:Program)(t:TypeId)(x y:Operand)(a b:J):Bool:=
 match a,b with
 |.fy,.fy=>(x matches .const _)||(y matches .const _)
 |.agg _,.agg _=>!P.eqGuardType P.depth t
 |_,_=>true
def arith(op:BinOp)(k:IntKind)(x y:Int):Option J:=
 match op with
 |.add=>some (.int k (k.wrap (x+y)))
 |.sub=>some (.int k (k.wrap (x-y)))
 |.mul=>some (.int k (k.wrap (x*y)))
 |.quo=>if y=0 then none else some (.int k (k.wrap (x.tdiv y)))
 |.rem=>if y=0 then none else some (.int k (x.tmod y))
 |.and=>some (.int k (k.wrap (BitVec.ofInt k.bits x&&&BitVec.ofInt k.bits y).toNat))
 |.or=>some (.int k (k.wrap (BitVec.ofInt k.bits x|||BitVec.ofInt k.bits y).toNat))
 |.xor=>some (.int k (k.wrap (BitVec.ofInt k.bits x^^^BitVec.ofInt k.bits y).toNat))
 |.andNot=>some (.int k (k.wrap (BitVec.ofInt k.bits x&&& ~~~BitVec.ofInt k.bits y).toNat))
 |.eql=>some (.bool (ba x y))
 |.neq=>some (.bool (!ba x y))
 |.lss=>some (.bool (br x y))
 |.leq=>some (.bool (dq x y))
 |.gtr=>some (.bool (br y x))
 |.geq=>some (.bool (dq y x))
 |_=>none
def l8(op:BinOp)(k:IntKind)(x y:Int):Option J:=
 if y<0 then none else
 match op with
 |.shl=>some (.int k (k.wrap (x*2^(min y.toNat k.bits))))
 |.shr=>some (.int k (x.fdiv (2^(min y.toNat k.bits))))
 |_=>none
def fA(op:BinOp)(x y:List UInt8):Option J:=
 match op with
 |.add=>if((x.length+y.length:Nat):Int)>IntKind.i64.max then none else some (.str (x++y))
 |.eql=>some (.bool (cF x y))
 |.neq=>some (.bool (!cF x y))
 |.lss=>some (.bool (en x y))
 |.leq=>some (.bool (!en y x))
 |.gtr=>some (.bool (en y x))
 |.geq=>some (.bool (!en x y))
 |_=>none
def dr(P:Program)(h:aa)(op:BinOp)(t:TypeId)(lf j_:Operand)(x y:J):Option J:=
 match x,y with
 |.int k a,.int k' b=>
  match op with
  |.shl|.shr=>l8 op k a b
  |_=>if k=k' then arith op k a b else none
 |.str a,.str b=>fA op a b
 |x,y=>
  match op with
  |.eql=>if rJ P t lf j_ x y then(match iT P h 100 t x y with
   |some b=>some (.bool b)
   |none=>none) else none
  |.neq=>if rJ P t lf j_ x y then(match iT P h 100 t x y with
   |some b=>some (.bool (!b))
   |none=>none) else none
  |_=>none
def gb:J->Option Nat
 |.int _ (.ofNat n)=>some n
 |_=>none
def jM(d:Nat):Option J->Option Nat
 |none=>some d
 |some v=>gb v
def bounds(len cap:Nat)(lo hi mx:Option J):Option (Nat×Nat×Nat):=
 match jM cap mx with
 |none=>none
 |some m=>match Nat.ble m cap with
  |false=>none
  |true=>match(match hi,mx with
     |none,none=>some len
     |none,some _=>none
     |some v,_=>gb v) with
   |none=>none
   |some ah=>match Nat.ble ah m with
    |false=>none
    |true=>match jM 0 lo with
     |none=>none
     |some l=>match Nat.ble l ah with
      |false=>none
      |true=>some (l,ah,m)
def d_(P:Program)(h:aa)(t:TypeId)(x:J)(lo hi mx:Option J):Option J:=
 match P.underlying t,x with
 |some .string,.str s=>match mx with
  |some _=>none
  |none=>match bounds s.length s.length lo hi none with
   |some (l,ah,_)=>some (.str (List.take (ah-l) (jB l s)))
   |none=>none
 |some (.slice e),.aA=>match dQ P e,bounds 0 0 lo hi mx with
  |some _,some _=>some .aA
  |_,_=>none
 |some (.slice e),.slice b off len (.exact cap)=>match dQ P e,bounds len cap lo hi mx with
  |some sz,some (l,ah,m)=>some (.slice b (if m=l then off else off+l*sz) (ah-l) (.exact (m-l)))
  |_,_=>none
 |some (.slice e),.slice b off len (.a5 g_)=>match dQ P e with
  |some sz=>if sz=g_ then(match mx with
   |none=>match bounds len len lo hi none with
    |some (l,ah,_)=>if l=0 then some (.slice b off ah (.a5 g_)) else if Nat.blt l len then some (.slice b (off+l*sz) (ah-l) (.a5 g_)) else some (.slice b off 0 .dead)
    |none=>none
   |some _=>match bounds len len lo hi mx with
    |some (l,ah,m)=>some (.slice b (if m=l then off else off+l*sz) (ah-l) (.exact (m-l)))
    |none=>none) else none
  |none=>none
 |some (.slice e),.slice b off len .dead=>match dQ P e,bounds 0 0 lo hi mx with
  |some _,some _=>some (.slice b off 0 .dead)
  |_,_=>none
 |some (.array n e),.ptr b off=>match dQ P e,bounds n n lo hi mx with
  |some sz,some (l,ah,m)=>some (.slice b (if m=l then off else off+l*sz) (ah-l) (.exact (m-l)))
  |_,_=>none
 |some (.pointer arr),.ptr b off=>match P.underlying arr with
  |some (.array n e)=>match dQ P e,bounds n n lo hi mx with
   |some sz,some (l,ah,m)=>some (.slice b (if m=l then off else off+l*sz) (ah-l) (.exact (m-l)))
   |_,_=>none
  |_=>none
 |_,_=>none
def cq(P:Program)(h:aa)(t:TypeId)(x:J):Option J:=
 match P.underlying t,x with
 |some .string,.str s=>some (.int .i64 (Int.ofNat s.length))
 |some (.array n _),_=>some (.int .i64 (Int.ofNat n))
 |some (.slice _),.slice _ _ n _=>some (.int .i64 (Int.ofNat n))
 |some (.slice _),.aA=>some (.int .i64 0)
 |some (.map _ _),.iR=>some (.int .i64 0)
 |some (.map _ _),.map r=>match h.get r with
  |some (.map es _)=>some (.int .i64 (Int.ofNat es.length))
  |_=>none
 |some (.pointer a),_=>match P.underlying a with
  |some (.array n _)=>some (.int .i64 (Int.ofNat n))
  |_=>none
 |_,_=>none
def z4(P:Program)(t:TypeId)(x:J):Option J:=
 match P.underlying t,x with
 |some (.array n _),_=>some (.int .i64 (Int.ofNat n))
 |some (.slice _),.slice _ _ _ (.exact n)=>some (.int .i64 (Int.ofNat n))
 |some (.slice _),.aA=>some (.int .i64 0)
 |_,_=>none
def cK:List UInt8->List J
 |[]=>[]
 |b::l=>.int .u8 (Int.ofNat b.toNat)::cK l
def ha(h:aa)(size:Nat):J->Option (Nat×List J)
 |.aA=>some (0,[])
 |.str s=>match size with
  |1=>some (s.length,cK s)
  |_=>none
 |.slice b off len .dead=>if len=0 then some (0,[]) else none
 |.slice b off len _=>match loadCells h b off (len*size) with
  |some cs=>some (len,cs)
  |none=>none
 |_=>none
def my(need bytes:Nat):Bool:=Nat.ble ((4*need+2048)*(bytes+1)) 281474976710656
def pA(P:Program):Option TypeId->Bool
 |none=>true
 |some t=>match P.underlying t with
  |some (.int _)=>false
  |some _=>true
  |none=>false
def lK(h:aa)(e bytes size need:Nat)(z:J)(cs:List J)(fz:Nat):Option (J×aa):=
 match my need bytes&&Nat.beq z.cells.length size&&cs.all J.cu with
 |true=>some (.slice h.n 0 need (.a5 size),h.push (.cells cs e .a5 0 fz))
 |false=>none
def gf(P:Program)(h:aa)(sT:TypeId)(xT:Option TypeId)(s x:J):Option (J×aa):=
 match P.underlying sT,pA P xT with
 |some (.slice e),true=>
  match P.info? e,fq P e with
  |some i,some z=>
   match ha h i.size x with
   |none=>none
   |some (n,cs)=>
    match s with
    |.aA=>match n with
     |0=>some (.aA,h)
     |_=>lK h e i.bytes i.size n z cs 0
    |.slice b off len (.exact cap)=>
     match Nat.ble (len+n) cap with
     |true=>match n with
      |0=>some (.slice b off len (.exact cap),h)
      |_=>match storeCells h b (off+len*i.size) cs with
       |some an=>some (.slice b off (len+n) (.exact cap),an)
       |none=>none
     |false=>match loadCells h b off (len*i.size) with
      |some old=>lK h e i.bytes i.size (len+n) z (old++cs) 0
      |none=>none
    |.slice b off len (.a5 g_)=>
     match Nat.beq g_ i.size&&Nat.blt 0 g_ with
     |true=>match n with
      |0=>some (s,h)
      |_=>match h.get b with
       |some (.cells old el .a5 lo hi)=>
        match Nat.ble (off+(len+n)*g_) old.length with
        |true=>match storeCells h b (off+len*g_) cs with
         |some an=>some (.slice b off (len+n) (.a5 g_),an)
         |none=>none
        |false=>match Nat.ble hi (off+len*g_)&&Nat.beq el e,loadCells h b off (len*g_) with
         |true,some o=>lK (h.set b none) e i.bytes i.size (len+n) z (o++cs) (hi-off)
         |_,_=>none
       |_=>none
     |false=>none
    |_=>none
  |_,_=>none
 |_,_=>none
def z5(P:Program)(h:aa)(z6:TypeId)(d s:J):Option (J×aa):=
 match P.underlying z6 with
 |some (.slice e)=>match dQ P e with
  |some sz=>match ha h sz s with
   |some (n,cs)=>match d with
    |.aA=>some (.int .i64 0,h)
    |.slice b off len _=>
     let m:=Nat.min n len
     if m=0 then some (.int .i64 0,h) else
     match takeN (m*sz) cs with
     |some b9=>match storeCells h b off b9 with
      |some an=>some (.int .i64 (Int.ofNat m),an)
      |none=>none
     |none=>none
    |_=>none
   |none=>none
  |none=>none
 |_=>none
def pB(P:Program)(h:aa)(t:TypeId)(x:J):Option (J×aa):=
 match P.underlying t,x with
 |some (.map _ _),.iR=>some (.aL [],h)
 |some (.slice _),.aA=>some (.aL [],h)
 |some (.map _ _),.map r=>match h.get r with
  |some (.map _ c)=>some (.aL [],h.set r (some (.map [] c)))
  |_=>none
 |some (.slice e),.slice b off n _=>if n=0 then some (.aL [],h) else
  match fq P e with
  |some z=>match storeCells h b off (gv n z.cells) with
   |some an=>some (.aL [],an)
   |none=>none
  |none=>none
 |_,_=>none
def mz:J->J->Option J
 |.int k x,.int k' y=>if k=k' then some (.int k (if br y x then y else x)) else none
 |_,_=>none
def xk:J->J->Option J
 |.int k x,.int k' y=>if k=k' then some (.int k (if br x y then y else x)) else none
 |_,_=>none
def lg(f:J->J->Option J):J->List J->Option J
 |x,[]=>some x
 |x,y::l=>match f x y with
  |some z=>lg f z l
  |none=>none
def nR:List J->Option (List UInt8)
 |[]=>some []
 |.int .u8 (.ofNat n)::l=>match Nat.blt n 256,nR l with
  |true,some r=>some (UInt8.ofNat n::r)
  |_,_=>none
 |_=>none
def qE(P:Program)(h:aa)(pT:TypeId)(p n:J):Option (J×aa):=
 match p,gb n with
 |.bb,some 0=>some (.str [],h)
 |.ptr b off,some n=>if n=0 then some (.str [],h) else
  match P.underlying pT,h.get b with
  |some (.pointer u),some (.cells cs el k lo hi)=>
   if P.underlyingId el=P.underlyingId u&&dQ P el=some 1&&Nat.ble n 281474976710656&&decide (k≠ .ro) then
    (match takeN n (jB off cs) with
    |some r=>match nR r with
     |some bs=>some (.str bs,h.set b (some (.cells cs el .fz lo hi)))
     |none=>none
    |none=>none) else none
  |_,_=>none
 |_,_=>none
def pC(P:Program)(dx:TypeId)(k:J):Bool:=
 match P.underlying dx with
 |some (.int _)=>match k with
  |.int _ _=>true
  |_=>false
 |some .string=>match k with
  |.str _=>true
  |_=>false
 |some .bool=>match k with
  |.bool _=>true
  |_=>false
 |_=>false
def z7(P:Program)(cs:List J):List Field->Bool
 |[]=>true
 |f::dm=>match l7 P f.type cs f.offset with
  |some a=>match pC P f.type a with
   |true=>z7 P cs dm
   |false=>false
  |none=>false
def z8(P:Program)(e:TypeId)(sz:Nat)(cs:List J):Nat->Nat->Bool
 |0,_=>true
 |n+1,i=>match l7 P e cs (i*sz) with
  |some a=>match pC P e a with
   |true=>z8 P e sz cs n (i+1)
   |false=>false
  |none=>false
def pD(P:Program)(dx:TypeId)(k:J):Bool:=
 match k with
 |.agg cs=>match P.underlying dx with
  |some (.struct dm)=>z7 P cs dm.toList
  |some (.array n e)=>match dQ P e with
   |some sz=>z8 P e sz cs n 0
   |none=>false
  |_=>false
 |k=>pC P dx k
def qF:J->J->Option Bool
 |.int j a,.int k b=>if j=k then some (ba a b) else none
 |.str a,.str b=>some (cF a b)
 |.bool a,.bool b=>some (a==b)
 |_,_=>none
def xl:List J->List J->Bool
 |[],[]=>true
 |a::l,b::m=>match qF a b with
  |some true=>xl l m
  |_=>false
 |_,_=>false
def rK(k x:J):Bool:=match k,x with
 |.agg a,.agg b=>xl a b
 |.agg _,_=>false
 |_,_=>true
def xm(P:Program)(h:aa)(dx:TypeId)(k x:J):Option Bool:=match k with
 |.agg cs=>iT P h 8 dx (.agg cs) x
 |k=>qF k x
def lL(P:Program)(h:aa)(dx:TypeId)(k:J):List hC->Nat->Option (Option (Nat×J))
 |[],_=>some none
 |e::es,i=>match xm P h dx k e.key with
  |some true=>some (some (i,e.val))
  |some false=>lL P h dx k es (i+1)
  |none=>none
def xn(i:Nat)(es:List hC):J:=match nth i es with
 |some e=>e.key
 |none=>.bad
def ta(v:J)(key:J):Nat->List hC->List hC
 |_,[]=>[]
 |0,e::es=>⟨key,v,e.born⟩::es
 |n+1,e::es=>e::ta v key n es
def xo(P:Program)(jN:TypeId)(ok:Bool):Option (Nat×J)->Option J
 |some (_,v)=>some (if ok then .aL [v,.bool true] else v)
 |none=>match fq P jN with
  |some z=>some (if ok then .aL [z,.bool false] else z)
  |none=>none
def z9(P:Program)(h:aa)(t:TypeId)(m k:J)(ok:Bool):Option J:=
 match P.underlying t with
 |some (.map dx jN)=>match pD P dx k with
  |true=>match m with
   |.iR=>xo P jN ok none
   |.map r=>match h.get r with
    |some (.map es _)=>match lL P h dx k es 0 with
     |some r=>xo P jN ok r
     |none=>none
    |_=>none
   |_=>none
  |false=>none
 |_=>none
def vh(P:Program)(h:aa)(t:TypeId)(m k v:J):Option aa:=
 match P.underlying t with
 |some (.map dx _)=>match pD P dx k with
  |true=>match m with
   |.map r=>match h.get r with
    |some (.map es clock)=>match lL P h dx k es 0 with
     |some (some (i,_))=>match rK k (xn i es) with
      |true=>some (h.set r (some (.map (ta v k i es) clock)))
      |false=>none
     |some none=>some (h.set r (some (.map (es++[⟨k,v,clock⟩]) (clock+1))))
     |none=>none
    |_=>none
   |_=>none
  |false=>none
 |_=>none
def z_(P:Program)(h:aa)(t:TypeId)(m k:J):Option (J×aa):=
 match P.underlying t with
 |some (.map dx jN)=>match pD P dx k with
  |true=>match m with
   |.map r=>match h.get r with
    |some (.map es clock)=>match lL P h dx k es 0 with
     |some (some (i,v))=>match nth i es with
      |some e=>match rK k e.key with
       |true=>some (.aL [v,.int .i64 (Int.ofNat e.born)],h.set r (some (.map (ta v k i es) clock)))
       |false=>none
      |none=>none
     |some none=>match fq P jN with
      |some z=>some (.aL [z,.int .i64 (Int.ofNat clock)],h.set r (some (.map (es++[⟨k,z,clock⟩]) (clock+1))))
      |none=>none
     |none=>none
    |_=>none
   |_=>none
  |false=>none
 |_=>none
def xp(born:Int):List hC->Nat->Option (Nat×hC)
 |[],_=>none
 |e::es,i=>match ba (Int.ofNat e.born) born with
  |true=>some (i,e)
  |false=>xp born es (i+1)
def Aa(h:aa)(m s v:J):Option aa:=
 match m,s with
 |.map r,.int _ born=>match h.get r with
  |some (.map es clock)=>match xp born es 0 with
   |some (i,e)=>some (h.set r (some (.map (ta v e.key i es) clock)))
   |none=>none
  |_=>none
 |_,_=>none
def C0:Nat->List hC->List hC
 |_,[]=>[]
 |0,_::es=>es
 |n+1,e::es=>e::C0 n es
def Ab(P:Program)(h:aa)(t:TypeId)(m k:J):Option (J×aa):=
 match P.underlying t with
 |some (.map dx _)=>match pD P dx k with
  |true=>match m with
   |.iR=>some (.aL [],h)
   |.map r=>match h.get r with
    |some (.map es clock)=>match lL P h dx k es 0 with
     |some (some (i,_))=>some (.aL [],h.set r (some (.map (C0 i es) clock)))
     |some none=>some (.aL [],h.set r (some (.map es clock)))
     |none=>none
    |_=>none
   |_=>none
  |false=>none
 |_=>none
def C1(s:List UInt8):Nat×Nat:=Utf8.decode ⟨s.toArray⟩ 0
def Ac(h:aa)(it:J)(isStr:Bool):Option (J×aa):=
 match it with
 |.ptr r 0=>match h.get r,isStr with
  |some (.rI s pos),true=>
   (match s with
   |[]=>some (.aL [.bool false],h)
   |s=>let(c,w):=C1 s
    some (.aL [.bool true,.int .i64 (Int.ofNat pos),.int .i32 (Int.ofNat c)],h.set r (some (.rI (jB w s) (pos+w)))))
  |some (.mapIter none _ _ _),false=>some (.aL [.bool false],h)
  |_,_=>none
 |_=>none
def xq(b:Nat):List hC->Option hC
 |[]=>none
 |e::l=>match Nat.beq e.born b with
  |true=>some e
  |false=>xq b l
def Ad:List Nat->Option Nat
 |[]=>none
 |[b]=>some b
 |_::b::l=>Ad (b::l)
def Ae(h:aa)(it:J):Option J:=
 match it with
 |.ptr r 0=>match h.get r with
  |some (.mapIter (some m) _ seen last)=>match h.get m,Ad seen with
   |some (.map es clock),some b=>match Nat.beq clock last with
    |true=>match xq b es with
     |some e=>some (.aL [e.key,e.val])
     |none=>none
    |false=>none
   |_,_=>none
  |_=>none
 |_=>none
end aC
namespace aC
open Go
inductive bH where
 |none|act (v:J)|done (v:J)
inductive bA where
 |nrm|exit (id:Nat)|ret|goto (l:Nat)|bp (v:J)
inductive ka where
 |ok (e:bA) (r:a0) (d:List bU) (q:bH) (h:aa)
 |fail (jL:String)
inductive aE where
 |fn (f:Nat)|ca (l:Nat)
inductive Acc where
 |env (j:Nat)|reg (p:iS)|val (v:J)
def ez(m:Nat)(env:List J)(r:a0):Acc->J
 |.env j=>(nth (m-1-j) env).getD .bad
 |.reg p=>r.get p
 |.val v=>v
def jm(t:Nat):List (Nat×Acc)->Option Acc
 |[]=>none
 |(u,a)::l=>match Nat.beq t u with
  |true=>some a
  |false=>jm t l
def c_(P:Program)(need:Nat)(loc:List (Nat×Acc)):Operand->Acc
 |.tmp t=>match jm t loc with
  |some a=>a
  |none=>match Nat.testBit need t with
   |true=>.reg (hP t)
   |false=>.val .bad
 |.const v=>.val (oF v)
 |.global g=>match Nat.blt g P.globals.size with
  |true=>.val (.ptr g 0)
  |false=>.val .bad
 |.func f=>.val (.fn f [] [])
def tb(f:J)(args:List J)(h:aa):fc:=
 match f with
 |.fn g first caps=>.call g (first++args++caps) h
 |.ca l=>.ca l args h
 |_=>.fail "callVal"
def gy(h:aa)(jL:String):Option J->fc
 |some v=>.val v h
 |none=>.fail jL
def l9(jL:String):Option (J×aa)->fc
 |some (v,h)=>.val v h
 |none=>.fail jL
def qG(jL:String):Option aa->fc
 |some h=>.val (.aL []) h
 |none=>.fail jL
def kindName:J->String
 |.bad=> "bad" |.bool _=> "bool" |.int _ n=> "int" ++toString n|.str s=> "str" ++toString s.length|.bb=> "nilP" |.ptr b o=> "ptr" ++toString b++ "+" ++toString o|.aA=> "nilS" |.slice b o n c=> "slice" ++toString b++ "+" ++toString o++ "," ++toString n++(match c with|.exact k=> "x" ++toString k|.a5 _=> "o" |.dead=> "d")
 |.iR=> "nilM" |.map _=> "map" |.gj=> "nilF" |.fn f _ _=> "fn" ++toString f|.ca _=> "yld" |.fy=> "nilI" |.iface t _=> "iface" ++toString t|.agg l=> "agg" ++toString l.length|.aL l=> "tup" ++toString l.length
def Af(P:Program)(t:TypeId)(name:String):Option Nat:=
 match P.info? t with
 |some i=>match i.methods.find? (·.name==name) with
  |some m=>match m.path.isEmpty,m.func,P.underlying t with
   |true,some (f,true),some (.pointer _)=>some f
   |true,some (f,false),some (.pointer _)=>none
   |true,some (f,false),some _=>some f
   |_,_,_=>none
  |none=>none
 |none=>none
def jn(P:Program)(b:Builtin)(ats:Array TypeId)(vs:List J)(h:aa):fc:=
 match b with
 |.recover=>.s_
 |.min=>match vs with
  |x::l=>gy h "min" (lg mz x l)
  |[]=>.fail "min"
 |.max=>match vs with
  |x::l=>gy h "max" (lg xk x l)
  |[]=>.fail "max"
 |b=>match ats[0]?,vs with
  |some t,[x]=>match b with
   |.len=>gy h ("len " ++kindName x) (cq P h t x)
   |.cap=>gy h "cap" (z4 P t x)
   |.clear=>l9 "clear" (pB P h t x)
   |.unsafeSliceData=>match x with
    |.aA=>.val .bb h
    |.slice b off n (.exact c)=>if c=0 then .fail "SliceData" else .val (.ptr b off) h
    |.slice b off n (.a5 _)=>if n=0 then .fail "SliceData" else .val (.ptr b off) h
    |_=>.fail "SliceData"
   |_=>.fail "builtin"
  |some t,[x,y]=>match b with
   |.append=>l9 ("append " ++kindName x++ " " ++kindName y) (gf P h t ats[1]? x y)
   |.copy=>l9 "copy" (z5 P h t x y)
   |.delete=>l9 "delete" (Ab P h t x y)
   |.unsafeString=>l9 "usString" (qE P h t x y)
   |_=>.fail "builtin"
  |_,_=>.fail "builtin"
def ec(P:Program)(src dst:TypeId)(x:J)(h:aa):fc:=
 match P.underlying src,P.underlying dst,x with
 |some (.int _),some (.int k),.int _ n=>.val (.int k (k.wrap n)) h
 |some (.int _),some .string,.int _ n=>.val (.str (Utf8.encode n).data.toList) h
 |some .string,some .string,.str s=>.val (.str s) h
 |some .string,some (.slice e),.str s=>match P.underlying e with
  |some (.int .u8)=>.val (.slice h.n 0 s.length (.a5 1)) (h.push (.cells (cK s) e .a5 0 0))
  |_=>.fail "convert to runes"
 |some (.slice e),some .string,v=>match P.underlying e,v with
  |some (.int .u8),.aA=>.val (.str []) h
  |some (.int .u8),.slice b off n .dead=>if n=0 then .val (.str []) h else .fail "convert dead"
  |some (.int .u8),.slice b off n _=>match loadCells h b off n with
   |some cs=>match nR cs with
    |some bs=>.val (.str bs) h
    |none=>.fail "convert bytes"
   |none=>.fail "convert bytes"
  |_,_=>.fail "convert slice to string"
 |some (.pointer u),some .unsafePointer,.ptr b off=>match h.get b,dQ P u with
  |some (.cells cs _ _ _ _),some (_+1)=>if Nat.blt off cs.length then .val (.ptr b off) h else .fail "convert pointer"
  |_,_=>.fail "convert pointer"
 |some .unsafePointer,some (.pointer u),.ptr b off=>match h.get b,dQ P u with
  |some (.cells cs el .own _ _),some (_+1)=>if liesAt P P.depth el (cs.length/P.cellsOf el) off u 1 then .val (.ptr b off) h else .fail "convert from pointer"
  |_,_=>.fail "convert from pointer"
 |_,_,v=>.fail ("convert " ++kindName v)
def c0(P:Program)(o:Oper)(g:Operand->J)(h:aa):fc:=
 match o.op with
 |.move x|.assign x=>.val (g x) h
 |.pick c a b=>match g c with
  |.bool true=>.val (g a) h
  |.bool false=>.val (g b) h
  |_=>.fail "pick"
 |.alloc e=>match fq P e with
  |some z=>match newRow h e z.cells with
   |some (b,an)=>.val (.ptr b 0) an
   |none=>.fail "alloc"
  |none=>.fail "alloc"
 |.box e x=>match newRow h e (g x).cells with
  |some (b,an)=>.val (.ptr b 0) an
  |none=>.fail "box"
 |.build t parts=>match fq P t with
  |some z=>match P.underlying t with
   |some (.struct dm)=>match dm.toList.all (λf=>(dQ P f.type).isSome),mw (λi=>(dm[i]?).map λf=>(f.offset,P.cellsOf f.type)) z.cells (parts.toList.map λp=>(p.1,g p.2)) with
    |true,some cs=>.val (.agg cs) h
    |_,_=>.fail "build"
   |some (.array _ e)=>match dQ P e with
    |some sz=>match mw (λi=>some (i*sz,sz)) z.cells (parts.toList.map λp=>(p.1,g p.2)) with
     |some cs=>.val (.agg cs) h
     |none=>.fail "build array"
    |none=>.fail "build"
   |_=>.fail "build"
  |none=>.fail "build"
 |.buildSlice t len parts=>match P.underlying t with
  |some (.slice e)=>match dQ P e,fq P e with
   |some sz,some z=>match Nat.ble (len*sz) 16777216&&Nat.beq z.cells.length sz,mw (λi=>some (i*sz,sz)) (if len*sz=0 then[] else gv len z.cells) (parts.toList.map λp=>(p.1,g p.2)) with
    |true,some cs=>match newRow h e cs with
     |some (b,an)=>.val (.slice b 0 len (.exact len)) an
     |none=>.fail "buildSlice"
    |_,_=>.fail "buildSlice"
   |_,_=>.fail "buildSlice"
  |_=>.fail "buildSlice"
 |.insert t m k v=>qG "insert" (vh P h t (g m) (g k) (g v))
 |.load t a=>match g a with
  |.ptr b off=>match m7 P t,dQ P t with
   |some true,some n=>match loadCells h b off n with
    |some cs=>.val (.agg cs) h
    |none=>.fail ("load agg " ++toString b++ "+" ++toString off)
   |some false,_=>gy h ("load " ++toString b++ "+" ++toString off) (av h b off)
   |_,_=>.fail "load"
  |v=>.fail ("load of " ++kindName v)
 |.store t a v=>match g a with
  |.ptr b off=>match g v,dQ P t with
   |.bad,_=>.fail "store bad"
   |v,some n=>match Nat.beq v.cells.length n with
    |true=>qG "store" (storeCells h b off v.cells)
    |false=>.fail "store size"
   |_,none=>.fail "store"
  |_=>.fail "store"
 |.ready _|.waits _=>.fail "ready"
 |.nilCheck x=>match g x with
  |.ptr b o=>.val (.ptr b o) h
  |.slice b o n c=>.val (.slice b o n c) h
  |.fn f a b=>.val (.fn f a b) h
  |.iface t v=>.val (.iface t v) h
  |_=>.fail "nilCheck"
 |.binOp op t x y _=>gy h ("binOp " ++kindName (g x)++ " " ++kindName (g y)) (dr P h op t x y (g x) (g y))
 |.unOp op _ x=>match op,g x with
  |.not,.bool b=>.val (.bool (!b)) h
  |.neg,.int k n=>.val (.int k (k.wrap (0-n))) h
  |.xor,.int k n=>gy h "unOp" (arith .xor k (if k.signed then-1 else k.max) n)
  |_,_=>.fail "unOp"
 |.convert src dst x=>ec P src dst (g x) h
 |.sliceToArrayPointer .. =>.fail "sliceToArrayPointer"
 |.makeInterface t x=>match P.underlying t with
  |some (.interface _)=>.fail "makeInterface"
  |some _=>.val (.iface t (g x)) h
  |none=>.fail "makeInterface"
 |.makeFunc fn first caps=>match fn with
  |.func f=>.val (.fn f (first.toList.map g) (caps.toList.map g)) h
  |_=>.fail "makeFunc"
 |.makeMap t r=>match r with
  |none=>.val (.map h.n) (h.push (.map [] 0))
  |some x=>match P.underlying t,g x with
   |some (.map _ _),.int _ _=>.val (.map h.n) (h.push (.map [] 0))
   |_,_=>.fail "makeMap"
 |.makeChan .. =>.fail "makeChan"
 |.makeSlice t l c=>match P.underlying t,gb (g l),gb (g c) with
  |some (.slice e),some l,some c=>match P.info? e,fq P e with
   |some i,some z=>if l<=c&&Nat.ble (c*(i.bytes+1)) 1099511627776&&Nat.beq z.cells.length i.size then(match newRow h e (if c*i.size=0 then[] else gv c z.cells) with
    |some (b,an)=>.val (.slice b 0 l (.exact c)) an
    |none=>.fail "makeSlice") else .fail "makeSlice bounds"
   |_,_=>.fail "makeSlice"
  |_,_,_=>.fail "makeSlice"
 |.slice t x lo hi mx=>gy h ("slice " ++kindName (g x)++((lo.map λo=>kindName (g o)).getD "-")++((hi.map λo=>kindName (g o)).getD "-")) (d_ P h t (g x) (lo.map g) (hi.map g) (mx.map g))
 |.fieldAddr s x f=>match P.underlying s,g x with
  |some (.struct dm),.ptr b off=>match dm[f]? with
   |some fd=>match dQ P fd.type with
    |some 0=>.fail "fieldAddr 0"
    |some _=>.val (.ptr b (off+fd.offset)) h
    |none=>.fail "fieldAddr"
   |none=>.fail "fieldAddr"
  |_,v=>.fail ("fieldAddr " ++kindName v)
 |.field t x f=>match P.underlying t,g x with
  |some (.struct dm),.agg cs=>match dm[f]? with
   |some fd=>gy h "field" (l7 P fd.type cs fd.offset)
   |none=>.fail "field"
  |_,_=>.fail "field"
 |.indexAddr t x i=>match P.underlying t,g x,gb (g i) with
  |some (.array n e),.ptr b off,some i=>match dQ P e with
   |some sz=>if i<n then .val (.ptr b (off+i*sz)) h else .fail "indexAddr range"
   |none=>.fail "indexAddr"
  |some (.slice e),.slice b off n c,some i=>match dQ P e with
   |some sz=>if i<n then .val (.ptr b (off+i*sz)) h else .fail "indexAddr range"
   |none=>.fail "indexAddr"
  |_,v,w=>.fail ("indexAddr " ++kindName v++kindName (g i))
 |.index t x i=>match P.underlying t,g x,gb (g i) with
  |some (.array n e),.agg cs,some i=>match dQ P e with
   |some sz=>if i<n then gy h "index" (l7 P e cs (i*sz)) else .fail "index range"
   |none=>.fail "index"
  |some .string,.str s,some i=>match nth i s with
   |some b=>.val (.int .u8 (Int.ofNat b.toNat)) h
   |none=>.fail "index str range"
  |_,_,_=>.fail "index"
 |.lookup t x i ok=>gy h "lookup" (z9 P h t (g x) (g i) ok)
 |.mapUpdate t m k v=>qG "mapUpdate" (vh P h t (g m) (g k) (g v))
 |.mapEntry t m k=>l9 "mapEntry" (z_ P h t (g m) (g k))
 |.entryStore t m s v=>qG "entryStore" (Aa h (g m) (g s) (g v))
 |.range t x=>match P.underlying t,g x with
  |some .string,.str s=>.val (.ptr h.n 0) (h.push (.rI s 0))
  |some (.map _ _),.iR=>.val (.ptr h.n 0) (h.push (.mapIter none 0 [] 0))
  |some (.map _ _),.map m=>match h.get m with
   |some (.map _ c)=>.val (.ptr h.n 0) (h.push (.mapIter (some m) c [] c))
   |_=>.fail "range"
  |_,_=>.fail "range"
 |.next it isStr=>l9 "next" (Ac h (g it) isStr)
 |.entry it=>gy h "entry" (Ae h (g it))
 |.typeAssert x xT as ok=>match P.underlying as,g x with
  |some (.interface _),_=>.fail "typeAssert to an interface"
  |some _,.fy=>if ok then(match fq P as with|some z=>.val (.aL [z,.bool false]) h|none=>.fail "typeAssert") else .fail "typeAssert nil"
  |some _,.iface t v=>if t=as then .val (if ok then .aL [v,.bool true] else v) h else
   if ok then(match fq P as with|some z=>.val (.aL [z,.bool false]) h|none=>.fail "typeAssert") else .fail "typeAssert fails"
  |_,_=>.fail "typeAssert"
 |.extract t i=>match g t with
  |.aL vs=>gy h "extract" (nth i vs)
  |_=>.fail "extract"
 |.call c=>match c.callee with
  |.value f=>tb (g f) (c.args.toList.map g) h
  |.invoke r name=>match g r with
   |.iface t v=>match Af P t name with
    |some f=>.call f (v::c.args.toList.map g) h
    |none=>.fail ("invoke " ++name)
   |_=>.fail ("invoke " ++name)
  |.builtin b=>jn P b c.argTypes (c.args.toList.map g) h
 |.go _=>.fail "go"
 |.defer c=>match c.callee with
  |.value f=>match g f with
   |.fn k first caps=>.j8 (.call k (first++c.args.toList.map g++caps))
   |_=>.fail "defer"
  |_=>.fail "defer"
 |.panic x=>match g x with
  |.iface t v=>.bp (.iface t v) h
  |_=>.fail "panic"
 |.send .. |.recv .. |.select .. =>.fail "comm"
structure Step where
 guard:Option (Acc×Bool)
 o:Oper
 loc:List (Nat×Acc)
 m:Nat
structure Hk where
 steps:List Step
 loc:List (Nat×Acc)
def kR(P:Program)(need:Nat)(ops:Array Oper)(loc:List (Nat×Acc))(o:Oper):Option (Acc×Bool):=
 match o.guard with
 |none=>none
 |some (j,b)=>match(ops[j]?).bind (·.dst) with
  |some t=>some (c_ P need loc (.tmp t),b)
  |none=>some (.val .bad,b)
def aliasOf(o:Oper):Option (Nat×Operand):=
 match o.guard,o.dst,o.op with
 |none,some t,.move x=>some (t,x)
 |none,some t,.assign x=>some (t,x)
 |_,_,_=>none
def mA(o:Oper)(m:Nat)(loc:List (Nat×Acc)):List (Nat×Acc):=
 match o.dst with
 |some t=>(t,.env m)::loc
 |none=>loc
def vi(P:Program)(need:Nat)(ops:Array Oper):List Oper->List (Nat×Acc)->List Step->Nat->Hk
 |[],loc,st,_=>⟨st.reverse,loc⟩
 |o::rest,loc,st,m=>
  match aliasOf o with
  |some (t,x)=>vi P need ops rest ((t,c_ P need loc x)::loc) st m
  |none=>vi P need ops rest (mA o m loc) (⟨kR P need ops loc o,o,loc,m⟩::st) (m+1)
def pE(P:Program)(need:Nat)(ops:Array Oper):Hk:=vi P need ops ops.toList [] [] 0
inductive m8 where
 |ok (env:List J) (d:List bU) (q:bH) (h:aa)
 |bp (v:J) (d:List bU) (q:bH) (h:aa)
 |fail (jL:String)
inductive xr where
 |ok (v:J) (d:List bU) (q:bH) (h:aa)
 |bp (v:J) (d:List bU) (q:bH) (h:aa)
 |fail (jL:String)
def e_:Option (J×Bool)->Option Bool
 |none=>some true
 |some (.bool c,b)=>some (c==b)
 |some (.aL [],_)=>some false
 |_=>none
def xt(d:List bU)(q:bH):ao->xr
 |.ret v h=>.ok v d q h
 |.bp v h=>.bp v d q h
 |.fail w=>.fail w
def eA(P:Program)(inR:Bool)(call:aE->List J->aa->ao)(gd:Option (J×Bool))(o:Oper)(g:Operand->J)(d:List bU)(q:bH)(h:aa):xr:=
 match e_ gd with
 |none=>.fail ("guard " ++o.pos)
 |some false=>.ok (.aL []) d q h
 |some true=>
  match c0 P o g h with
  |.val v an=>.ok v d q an
  |.bp v an=>.bp v d q an
  |.call f args an=>xt d q (call (.fn f) args an)
  |.ca l args an=>xt d q (call (.ca l) args an)
  |.j8 x=>if inR then .fail "defer in a round" else .ok (.aL []) (x::d) q h
  |.s_=>if inR then .fail "recover in a round" else match q with
   |.none=>.ok .fy d .none h
   |.done v=>.ok .fy d (.done v) h
   |.act v=>.ok v d (.done v) h
  |.fail w=>.fail (w++ " at " ++o.pos)
def kS(P:Program)(need:Nat)(inR:Bool)(call:aE->List J->aa->ao)(r:a0):List Step->List J->List bU->bH->aa->m8
 |[],env,d,q,h=>.ok env d q h
 |s::rest,env,d,q,h=>
  match eA P inR call (match s.guard with|none=>none|some (a,b)=>some (ez s.m env r a,b)) s.o (λx=>ez s.m env r (c_ P need s.loc x)) d q h with
  |.ok v bO bE an=>kS P need inR call r rest (v::env) bO bE an
  |.bp v bO bE an=>.bp v bO bE an
  |.fail w=>.fail w
def cE.beq:cE->cE->Bool
 |.exact a,.exact b=>Nat.beq a b
 |.a5 a,.a5 b=>Nat.beq a b
 |.dead,.dead=>true
 |_,_=>false
mutual
def J.beq:J->J->Bool
 |.bool a,.bool b=>a==b
 |.int j a,.int k b=>decide (j=k)&&ba a b
 |.str a,.str b=>cF a b
 |.bb,.bb=>true
 |.ptr a i,.ptr b j=>Nat.beq a b&&Nat.beq i j
 |.aA,.aA=>true
 |.slice a i n c,.slice b j m d=>Nat.beq a b&&Nat.beq i j&&Nat.beq n m&&c.beq d
 |.iR,.iR=>true
 |.map a,.map b=>Nat.beq a b
 |.gj,.gj=>true
 |.fn f a b,.fn g c d=>Nat.beq f g&&J.nS a c&&J.nS b d
 |.ca a,.ca b=>Nat.beq a b
 |.fy,.fy=>true
 |.iface t v,.iface u w=>Nat.beq t u&&J.beq v w
 |.agg a,.agg b=>J.nS a b
 |.aL a,.aL b=>J.nS a b
 |_,_=>false
def J.nS:List J->List J->Bool
 |[],[]=>true
 |a::as,b::bs=>J.beq a b&&J.nS as bs
 |_,_=>false
end
inductive Ox where
 |pure|alloc|eY
def kindOf(P:Program):Op->Ox
 |.move _|.assign _|.pick .. |.build .. |.load .. |.nilCheck _|.binOp .. |.unOp .. |.makeInterface .. |.makeFunc .. |.slice .. |.fieldAddr .. |.field .. |.indexAddr .. |.index .. |.lookup .. |.typeAssert .. |.extract .. =>.pure
 |.convert _ d _=>match P.underlying d with
  |some (.slice _)=>.eY
  |_=>.pure
 |.call c=>match c.callee with
  |.builtin .len|.builtin .cap|.builtin .min|.builtin .max|.builtin .unsafeSliceData=>.pure
  |_=>.eY
 |.alloc _|.box .. |.buildSlice .. |.makeSlice .. =>.alloc
 |.makeMap _ none=>.alloc
 |_=>.eY
def lM(P:Program)(o:Op)(g:Operand->J)(b:Nat):Option (J×cJ):=
 match o with
 |.alloc e=>match fq P e with
  |some z=>match z.cells.all J.cu with
   |true=>some (.ptr b 0,.cells z.cells e .own 0 0)
   |false=>none
  |none=>none
 |.box e x=>match(g x).cells.all J.cu with
  |true=>some (.ptr b 0,.cells (g x).cells e .own 0 0)
  |false=>none
 |.buildSlice t len parts=>match P.underlying t with
  |some (.slice e)=>match dQ P e,fq P e with
   |some sz,some z=>match Nat.ble (len*sz) 16777216&&Nat.beq z.cells.length sz,mw (λi=>some (i*sz,sz)) (if len*sz=0 then[] else gv len z.cells) (parts.toList.map λp=>(p.1,g p.2)) with
    |true,some cs=>match cs.all J.cu with
     |true=>some (.slice b 0 len (.exact len),.cells cs e .own 0 0)
     |false=>none
    |_,_=>none
   |_,_=>none
  |_=>none
 |.makeSlice t l c=>match P.underlying t,gb (g l),gb (g c) with
  |some (.slice e),some l,some c=>match P.info? e,fq P e with
   |some i,some z=>match decide (l<=c)&&Nat.ble (c*(i.bytes+1)) 1099511627776&&Nat.beq z.cells.length i.size,(if c*i.size=0 then[] else gv c z.cells) with
    |true,cs=>match cs.all J.cu with
     |true=>some (.slice b 0 l (.exact c),.cells cs e .own 0 0)
     |false=>none
    |_,_=>none
   |_,_=>none
  |_,_,_=>none
 |.makeMap _ none=>some (.map b,.map [] 0)
 |_=>none
structure DStep where
 i:Nat
 o:Oper
 fD:Nat
 loc:List (Nat×Acc)
def xu(hb:List Nat)(n:Nat)(o:Oper):Nat:=
 o.after.foldl (λs e=>match Region.binds .any e with
  |true=>s|||1<<<e.on|||(nth (n-1-e.on) hb).getD 0
  |false=>s) 0
def fK:List Oper->Nat->List (Nat×Acc)->List Nat->List DStep
 |[],_,_,_=>[]
 |o::l,n,loc,hb=>
  let m:=xu hb n o
  ⟨n,o,m,loc⟩::fK l (n+1) (mA o n loc) (m::hb)
def jC:List Oper->Nat->List (Nat×Acc)->List (Nat×Acc)
 |[],_,loc=>loc
 |o::l,n,loc=>jC l (n+1) (mA o n loc)
def hD(P:Program)(need:Nat)(ops:Array Oper)(r:a0)(n:Nat)(env:List J)(s:DStep):Option (J×Bool):=
 match kR P need ops s.loc s.o with
 |none=>none
 |some (a,b)=>some (ez n env r a,b)
inductive C2 where
 |ok (env:List J) (d:List bU) (q:bH) (h:aa) (bg:List (Nat×Nat×aa))
 |bp (v:J) (env:List J) (d:List bU) (q:bH) (h:aa) (bg:List (Nat×Nat×aa))
 |fail (jL:String)
def gT(P:Program)(need:Nat)(inR:Bool)(call:aE->List J->aa->ao)(ops:Array Oper)(r:a0)(c5:Nat):List DStep->List J->List bU->bH->aa->List (Nat×Nat×aa)->C2
 |[],env,d,q,h,bg=>.ok env d q h bg
 |s::rest,env,d,q,h,bg=>
  let gd:=hD P need ops r s.i env s
  let g:=λx=>ez s.i env r (c_ P need s.loc x)
  match kindOf P s.o.op with
  |.alloc=>match e_ gd with
   |none=>.fail ("guard " ++s.o.pos)
   |some false=>gT P need inR call ops r c5 rest (.aL []::env) d q h bg
   |some true=>match lM P s.o.op g (c5+s.i) with
    |some (v,o)=>gT P need inR call ops r c5 rest (v::env) d q (h.set (c5+s.i) (some o)) bg
    |none=>.fail ("alloc " ++s.o.pos)
  |.pure=>match eA P inR call gd s.o g d q h with
   |.ok v _ _ _=>gT P need inR call ops r c5 rest (v::env) d q h bg
   |.bp _ _ _ _=>.fail ("pure " ++s.o.pos)
   |.fail w=>.fail w
  |.eY=>
   match(match bg with|[]=>true|(e,_,_)::_=>Nat.testBit s.fD e) with
   |false=>.fail ("order " ++s.o.pos)
   |true=>match eA P inR call gd s.o g d q h with
    |.ok v bO bE an=>gT P need inR call ops r c5 rest (v::env) bO bE an ((s.i,s.fD,h)::bg)
    |.bp v bO bE an=>match rest.all (λa2=>Nat.testBit a2.fD s.i) with
     |true=>.bp v env bO bE an ((s.i,s.fD,h)::bg)
     |false=>.fail ("panic " ++s.o.pos)
    |.fail w=>.fail w
def mB(P:Program)(need:Nat)(ops:Array Oper)(r:a0)(n:Nat)(env:List J)(s:DStep)(v:J)(h:aa):Bool:=
 match e_ (hD P need ops r n env s) with
 |none=>false
 |some false=>true
 |some true=>match c0 P s.o (λx=>ez n env r (c_ P need s.loc x)) h with
  |.val v' _=>J.beq v' v
  |_=>false
def lN(P:Program)(need:Nat)(ops:Array Oper)(r:a0)(n:Nat)(env:List J)(s:DStep)(v:J):Option Nat->aa->List (Nat×Nat×aa)->Bool
 |eF,h,bg=>
  (match(match eF with|none=>false|some e=>Nat.testBit s.fD e)||(match bg with|[]=>false|(_,m,_)::_=>Nat.testBit m s.i) with
   |true=>true
   |false=>mB P need ops r n env s v h)&&
  (match bg with
   |[]=>true
   |(e,_,an)::rest=>lN P need ops r n env s v (some e) an rest)
def l_(P:Program)(need:Nat)(ops:Array Oper)(r:a0)(n:Nat)(env:List J)(last:Option Nat)(h:aa)(bg:List (Nat×Nat×aa)):List DStep->Bool
 |[]=>true
 |s::rest=>(match Nat.blt s.i n,kindOf P s.o.op with
   |true,.pure=>lN P need ops r n env s ((nth (n-1-s.i) env).getD .bad) last h bg
   |_,_=>true)&&l_ P need ops r n env last h bg rest
def tc(P:Program)(need:Nat)(inR:Bool)(call:aE->List J->aa->ao)(ops:Array Oper)(r:a0)(d:List bU)(q:bH)(h:aa):m8:=
 let steps:=fK ops.toList 0 [] []
 match gT P need inR call ops r h.n steps [] d q ⟨h.t,h.n+ops.size⟩ [] with
 |.ok env bO bE an bg=>match l_ P need ops r env.length env none an bg steps with
  |true=>.ok env bO bE an
  |false=>.fail "orders"
 |.bp v env bO bE an bg=>match bg with
  |(e,_,az)::rest=>match l_ P need ops r env.length env (some e) az rest steps with
   |true=>.bp v bO bE an
   |false=>.fail "orders"
  |[]=>.fail "orders"
 |.fail w=>.fail w
def qH(need:Nat)(m:Nat)(env:List J)(gw:a0):List (Nat×Acc)->a0->a0
 |[],r=>r
 |(t,a)::l,r=>
  let r':=qH need m env gw l r
  match Nat.testBit need t with
  |true=>r'.set (hP t) (ez m env gw a)
  |false=>r'
def vj:List (Nat×Acc)->a0->a0
 |[],r=>r
 |(t,_)::l,r=>(vj l r).set (hP t) .bad
def qI(need:Nat)(r:a0)(loc:List (Nat×Acc)):m8->ka
 |.ok env d q h=>.ok .nrm (qH need env.length env r loc r) d q h
 |.bp v d q h=>.ok (.bp v) (vj loc r) d q h
 |.fail w=>.fail w
def qJ(x:ka)(f:a0->List bU->bH->aa->ka):ka:=
 match x with
 |.ok .nrm r d q h=>f r d q h
 |x=>x
def pF(f:a0->List bU->bH->aa->ka):Nat->a0->List bU->bH->aa->ka
 |0,_,_,_,_=>.fail "loop fuel"
 |n+1,r,d,q,h=>qJ (f r d q h) (pF f n)
def oG(rd:Option Nat)(n:Nat):Nat:=match rd with
 |none=>n+1
 |some _=>n
def xv(need:Nat)(rd:Option Nat)(r:a0)(ps:List Nat)(as cr:Code)(d:List bU)(h:aa):Option (List bU×aa):=
 match rd with
 |none=>some (.collected h.n::d,(h.push (.defrd (some []))).push (.loop .ready none need r ps as cr h.n))
 |some C3=>match h.get C3 with
  |some (.loop _ _ _ _ _ _ _ eU)=>some (d,h.push (.loop .ready none need r ps as cr eU))
  |_=>none
def jO(l:Nat)(r:a0)(d:List bU)(q:bH):ao->ka
 |.ret _ h=>match h.get l with
  |some (.loop st gJ c6 rg ps as cr eU)=>match st with
   |.busy=>.fail "rangeFunc: busy"
   |_=>match gJ with
    |none=>.ok .nrm r d q (h.set l (some (.loop .exhausted gJ c6 rg ps as cr eU)))
    |some .ret=>.ok .ret r d q (h.set l (some (.loop .exhausted gJ c6 rg ps as cr eU)))
    |some (.exit id)=>.ok (.exit id) r d q (h.set l (some (.loop .exhausted gJ c6 rg ps as cr eU)))
    |_=>.fail "rangeFunc: goto"
  |_=>.fail "rangeFunc: loop gone"
 |.bp v h=>.ok (.bp v) r d q h
 |.fail w=>.fail w
def ea(P:Program)(need:Nat)(rd:Option Nat)(call:aE->List J->aa->ao):Code->a0->List bU->bH->aa->ka
 |.skip,r,d,q,h=>.ok .nrm r d q h
 |.region id ops draw,r,d,q,h=>
  match draw with
  |false=>
   let pl:=pE P need ops
   qI need r pl.loc (kS P need rd.isSome call r pl.steps [] d q h)
  |true=>qI need r (jC ops.toList 0 []) (tc P need rd.isSome call ops r d q h)
 |.seq a b,r,d,q,h=>qJ (ea P need rd call a r d q h) (ea P need rd call b)
 |.cond c a b,r,d,q,h=>match ez 0 [] r (c_ P need [] c) with
  |.bool true=>ea P need rd call a r d q h
  |.bool false=>ea P need rd call b r d q h
  |_=>.fail "cond"
 |.block id b,r,d,q,h=>match ea P need rd call b r d q h with
  |.ok (.exit i) r' bO bE an=>if i=id then .ok .nrm r' bO bE an else .ok (.exit i) r' bO bE an
  |x=>x
 |.loop b,r,d,q,h=>pF (ea P need rd call b) 100000 r d q h
 |.exit id,r,d,q,h=>.ok (.exit id) r d q h
 |.ret,r,d,q,h=>.ok .ret r d q h
 |.label _,r,d,q,h=>.ok .nrm r d q h
 |.goto l,r,d,q,h=>.fail "goto"
 |.scope b,r,d,q,h=>ea P need rd call b r d q h
 |.rangeFunc f params assign body,r,d,q,h=>
  match xv need rd r params.toList assign body d h with
  |none=>.fail "rangeFunc"
  |some (bO,ab)=>
   match tb (ez 0 [] r (c_ P need [] f)) [.ca (oG rd h.n)] ab with
   |.call g args ae=>jO (oG rd h.n) r bO q (call (.fn g) args ae)
   |.ca bQ args ae=>jO (oG rd h.n) r bO q (call (.ca bQ) args ae)
   |_=>.fail "rangeFunc: no function"
 |.refuse w,_,_,_,_=>.fail ("refuse " ++w)
def bit(t:Nat):Nat:=1<<<t
def Hl:List Oper->Nat->Nat->Nat
 |[],_,acc=>acc
 |o::l,written,acc=>
  let acc:=o.op.operands.foldl (λa x=>match x with
   |.tmp t=>if Nat.testBit written t then a else a|||bit t
   |_=>a) acc
  Hl l (match o.dst with|some t=>written|||bit t|none=>written) acc
def Hm:Operand->Nat
 |.tmp t=>bit t
 |_=>0
def rL:Code->Nat->Nat
 |.region _ ops _,acc=>Hl ops.toList 0 acc
 |.seq a b,acc=>rL b (rL a acc)
 |.cond c a b,acc=>rL b (rL a (acc|||Hm c))
 |.block _ b,acc|.loop b,acc|.scope b,acc=>rL b acc
 |.rangeFunc f ps a b,acc=>rL b (rL a (acc|||Hm f|||ps.foldl (λa t=>a|||bit t) 0))
 |_,acc=>acc
def dt(fn:Func):Nat:=
 let rs:=fn.results.foldl (λa r=>match r with|.tmp t=>a|||bit t|.cell t _=>a|||bit t) 0
 match fn.body with
 |some c=>rL c rs
 |none=>rs
def nT:Nat->List J->a0->a0
 |_,[],r=>r
 |i,v::l,r=>nT (i+1) l (r.set (hP i) v)
def rM(P:Program)(need:Nat)(r:a0)(h:aa)(x:ResultVar):Option J:=
 match x with
 |.tmp t=>match Nat.testBit need t with
  |true=>some (r.get (hP t))
  |false=>none
 |.cell t ty=>match Nat.testBit need t with
  |true=>match r.get (hP t),m7 P ty,dQ P ty with
   |.ptr b off,some true,some n=>(match loadCells h b off n with|some cs=>some (.agg cs)|none=>none)
   |.ptr b off,some false,_=>av h b off
   |_,_,_=>none
  |false=>none
def mC(f:ResultVar->Option J):List ResultVar->Option (List J)
 |[]=>some []
 |x::l=>match f x,mC f l with
  |some v,some vs=>some (v::vs)
  |_,_=>none
def pG(P:Program)(need:Nat)(fn:Func)(r:a0)(h:aa):Option J:=
 match mC (rM P need r h) fn.results.toList with
 |some [v]=>some v
 |some vs=>some (.aL vs)
 |none=>none
def oH(c:Nat):List UInt8->Nat->Int
 |[],_=>-1
 |b::l,i=>match Nat.beq b.toNat c with
  |true=>Int.ofNat i
  |false=>oH c l (i+1)
def vk(P:Program)(fn:Func)(name:String)(args:List J)(h:aa):Option (J×aa):=
 match args with
 |[.int .i64 (.ofNat n)]=>if name= "internal/bytealg.MakeNoZero" then
    (match fn.resultTypes[0]? with
    |some t=>match P.underlying t with
     |some (.slice e)=>match Nat.ble n 1099511627776 with
      |true=>some (.slice h.n 0 n (.a5 1),h.push (.cells (List.replicate n .bad) e .a5 0 0))
      |false=>none
     |_=>none
    |none=>none) else none
 |[x]=>if name= "internal/abi.NoEscape" then some (x,h) else
  if name= "maps.clone" then(match x with
   |.iface t (.map r)=>match h.get r with
    |some (.map es c)=>some (.iface t (.map h.n),h.push (.map es c))
    |_=>none
   |_=>none) else none
 |[.str s,.int .u8 (.ofNat c)]=>if name= "internal/bytealg.IndexByteString" then
    (match Nat.blt c 256 with
    |true=>some (.int .i64 (oH c s 0),h)
    |false=>none) else none
 |_=>none
def qK:Option J->bH
 |some v=>.act v
 |none=>.none
def vl(q:bH)(fa:Option J):Option J:=match q with
 |.done _=>none
 |_=>fa
def lh(P:Program)(call:aE->List J->aa->ao)(fn:Func)(args:List J)(q:bH)(h:aa):ka:=
 match fn.body with
 |some c=>match Nat.ble args.length fn.ntmps with
  |true=>ea P (dt fn) none call c (nT 0 args .leaf) [] q h
  |false=>.fail "too many arguments"
 |none=>.fail "no body"
def Ag(P:Program)(fn:Func)(fa:Option J):ka->Option (Option J×aa)
 |.ok e r d q h=>match(match e with|.nrm=>true|.ret=>true|_=>false),d,pG P (dt fn) fn r h with
  |true,[],some _=>some (vl q fa,h)
  |_,_,_=>none
 |.fail _=>none
def kb(P:Program)(call:aE->List J->aa->ao)(need:Nat)(fn:Func)(r:a0):Nat->Option J->List bU->aa->ao
 |0,_,_,_=>.fail "defers"
 |k+1,fa,bd,h=>match bd with
  |[]=>match fa with
   |none=>match pG P need fn r h with
    |some v=>.ret v h
    |none=>.fail "results"
   |some v=>.bp v h
  |.collected b::bd=>match h.get b with
   |some (.defrd (some cs))=>kb P call need fn r k fa (cs++bd) (h.set b (some (.defrd none)))
   |_=>.fail "collected"
  |.call g args::bd=>
   match P.funcs[g]? with
   |some eQ=>match Ag P eQ fa (lh P call eQ args (qK fa) h) with
    |some (Oy,an)=>kb P call need fn r k Oy bd an
    |none=>.fail "deferred call"
   |none=>.fail "deferred"
def kT(P:Program)(call:aE->List J->aa->ao)(fn:Func):ka->ao
 |.ok .nrm r d _ h=>kb P call (dt fn) fn r 100 none d h
 |.ok .ret r d _ h=>kb P call (dt fn) fn r 100 none d h
 |.ok (.bp v) r d _ h=>kb P call (dt fn) fn r 100 (some v) d h
 |.ok _ _ _ _ _=>.fail "exit out of a function"
 |.fail w=>.fail (w++ " < " ++fn.name)
def qL(P:Program)(call:aE->List J->aa->ao)(f:Nat)(args:List J)(h:aa):ao:=
 match P.funcs[f]? with
 |none=>.fail "no function"
 |some fn=>
  match fn.body with
  |none=>match vk P fn fn.name args h with
   |some (v,an)=>.ret v an
   |none=>.fail ("extern " ++fn.name)
  |some _=>kT P call fn (lh P call fn args .none h)
def td:List Nat->List J->a0->Option a0
 |[],[],r=>some r
 |t::c7,v::vs,r=>td c7 vs (r.set (hP t) v)
 |_,_,_=>none
def vm(l:Nat):ka->ao
 |.ok e _ [] _ h=>match h.get l with
  |some (.loop .busy _ c6 rg ps as cr eU)=>match e with
   |.nrm=>.ret (.bool true) (h.set l (some (.loop .ready none c6 rg ps as cr eU)))
   |.ret=>.ret (.bool false) (h.set l (some (.loop .done (some .ret) c6 rg ps as cr eU)))
   |.exit id=>.ret (.bool false) (h.set l (some (.loop .done (some (.exit id)) c6 rg ps as cr eU)))
   |.bp v=>.bp v h
   |.goto _=>.fail "goto in a round"
  |_=>.fail "round"
 |.ok .. =>.fail "round defers"
 |.fail w=>.fail (w++ " < round")
def Ah(P:Program)(call:aE->List J->aa->ao)(l need:Nat)(cr:Code):ka->ao
 |.ok .nrm r [] _ h=>match h.get l with
  |some (.loop .ready gJ c6 rg ps Ai Aj eU)=>vm l (ea P need (some l) call cr r [] .none (h.set l (some (.loop .busy gJ c6 rg ps Ai Aj eU))))
  |_=>.fail "round"
 |.ok .. =>.fail "round assign"
 |.fail w=>.fail w
def oI(P:Program)(call:aE->List J->aa->ao)(l:Nat)(args:List J)(h:aa):ao:=
 match h.get l with
 |some (.loop .ready _ need rg ps as cr _)=>
  match td ps args rg with
  |none=>.fail "yield: arguments"
  |some gw=>Ah P call l need cr (ea P need (some l) call as gw [] .none h)
 |_=>.fail "yield"
def gk(P:Program)(intr:Nat->List J->aa->Option (J×aa)):Nat->aE->List J->aa->ao
 |0,_,_,_=>.fail "depth"
 |n+1,.fn f,args,h=>match intr f args h with
  |some (v,an)=>.ret v an
  |none=>qL P (gk P intr n) f args h
 |n+1,.ca l,args,h=>oI P (gk P intr n) l args h
def oJ(n:Nat):aa:=⟨.leaf,n⟩
def mD(ops:Array Oper)(o:Oper):List Nat:=
 o.dst.toList++(o.op.operands.toList.filterMap λ|.tmp t=>some t|_=>none)++(match o.guard with|some (j,_)=>((ops[j]?).bind (·.dst)).toList|none=>[])
def oK(o:Oper)(i:Nat):Bool:=o.after.toList.all λe=>!Region.binds .any e||Nat.blt e.on i
def Ak(ops:Array Oper)(s:DStep):List DStep->Bool
 |[]=>true
 |a2::l=>(match(match s.o.dst with|some t=>(mD ops a2.o).contains t|none=>false)||(match a2.o.dst with|some t=>(mD ops s.o).contains t|none=>false) with
   |true=>Nat.testBit a2.fD s.i
   |false=>true)&&Ak ops s l
def qM(ops:Array Oper):List DStep->Bool
 |[]=>true
 |s::l=>oK s.o s.i&&Ak ops s l&&qM ops l
def jD(cG:Nat):Code->Bool
 |.region _ ops draw=>ops.toList.all (λo=>match o.dst with|some t=>Nat.blt t cG|none=>true)&&(!draw||qM ops (fK ops.toList 0 [] []))
 |.seq a b=>jD cG a&&jD cG b
 |.cond _ a b=>jD cG a&&jD cG b
 |.block _ b|.loop b|.scope b=>jD cG b
 |.rangeFunc _ ps a b=>ps.toList.all (λt=>Nat.blt t cG)&&jD cG a&&jD cG b
 |_=>true
end aC
namespace aC
open Go
def iS.num:iS->Nat
 |.here=>0
 |.l p=>2*p.num+1
 |.r p=>2*p.num+2
theorem Hn:∀(f n:Nat),n<=f->(xi f n).num=n
 |0,n,h=>by
  obtain rfl:n=0:=by omega
  rfl
 |f+1,0,_=>rfl
 |f+1,m+1,h=>by
  have e:Nat.mod m 2=m %2:=rfl
  have aG:Nat.div m 2=m/2:=rfl
  have bt:=Hn f (m/2) (by omega)
  simp only[xi,e,aG]
  rcases Nat.mod_two_eq_zero_or_one m with az|ab
  · simp only[az,iS.num,bt];omega
  · simp only[ab,iS.num,bt];omega
theorem Al(n:Nat):(hP n).num=n:=Hn n n (Nat.le_refl n)
theorem Oz{m n:Nat}(h:hP m=hP n):m=n:=by rw[<-Al m,<-Al n,h]
theorem a0.rN(l:a0)(v:J)(r:a0):a0.CX l v r=.node l v r:=by cases l<;>rfl
theorem a0.rO(l:a0)(v:J)(r:a0):a0.CY l v r=.node l v r:=by cases r<;>rfl
theorem a0.nU(p:iS):a0.get p .leaf=.bad:=by cases p<;>rfl
theorem a0.xw:∀(p:iS) (v:J) (t:a0),(a0.set p v t).get p=v
 |.here,v,.leaf=>rfl
 |.here,v,.node .. =>rfl
 |.l p,v,.leaf=>by simp only[a0.set,a0.rN,a0.get];exact xw p v _
 |.l p,v,.node l _ _=>by simp only[a0.set,a0.rN,a0.get];exact xw p v _
 |.r p,v,.leaf=>by simp only[a0.set,a0.rO,a0.get];exact xw p v _
 |.r p,v,.node .. =>by simp only[a0.set,a0.rO,a0.get];exact xw p v _
theorem a0.xx:∀(p q:iS) (v:J) (t:a0),p≠q->(a0.set q v t).get p=t.get p
 |.here,.here,_,_,h=>absurd rfl h
 |.here,.l q,v,.leaf,_=>by simp[a0.set,a0.rN,a0.get]
 |.here,.l q,v,.node ..,_=>by simp[a0.set,a0.rN,a0.get]
 |.here,.r q,v,.leaf,_=>by simp[a0.set,a0.rO,a0.get]
 |.here,.r q,v,.node ..,_=>by simp[a0.set,a0.rO,a0.get]
 |.l p,.here,v,.leaf,_=>by simp[a0.set,a0.get,a0.nU]
 |.l p,.here,v,.node ..,_=>by simp[a0.set,a0.get]
 |.r p,.here,v,.leaf,_=>by simp[a0.set,a0.get,a0.nU]
 |.r p,.here,v,.node ..,_=>by simp[a0.set,a0.get]
 |.l p,.l q,v,.leaf,h=>by
  simp only[a0.set,a0.rN,a0.get]
  rw[xx p q v _ (λe=>h (by rw[e])),a0.nU]
 |.l p,.l q,v,.node ..,h=>by
  simp only[a0.set,a0.rN,a0.get]
  exact xx p q v _ (λe=>h (by rw[e]))
 |.r p,.r q,v,.leaf,h=>by
  simp only[a0.set,a0.rO,a0.get]
  rw[xx p q v _ (λe=>h (by rw[e])),a0.nU]
 |.r p,.r q,v,.node ..,h=>by
  simp only[a0.set,a0.rO,a0.get]
  exact xx p q v _ (λe=>h (by rw[e]))
 |.l p,.r q,v,.leaf,_=>by simp[a0.set,a0.rO,a0.get,a0.nU]
 |.l p,.r q,v,.node ..,_=>by simp[a0.set,a0.rO,a0.get]
 |.r p,.l q,v,.leaf,_=>by simp[a0.set,a0.rN,a0.get,a0.nU]
 |.r p,.l q,v,.node ..,_=>by simp[a0.set,a0.rN,a0.get]
theorem a0.bV(t u:Nat)(v:J)(r:a0):(a0.set (hP u) v r).get (hP t)=if t=u then v else r.get (hP t):=by
 by_cases h:t=u
 · subst h;simp[a0.xw]
 · rw[if_neg h];exact a0.xx _ _ _ _ (λe=>h (Oz e))
theorem fJ.nU(n:Nat):fJ.get .leaf n=none:=rfl
theorem fJ.bV:∀(f:Nat) (t:fJ) (n m:Nat) (x:Option cJ),n<f->(fJ.l6 f t n x).get m=if m=n then x else t.get m
 |0,_,n,_,_,h=>by omega
 |f+1,.leaf,0,m,x,_=>by
  cases m with
  |zero=>simp[fJ.l6,fJ.get]
  |succ m=>
   simp only[fJ.l6,fJ.get]
   have e:Nat.mod m 2=m %2:=rfl
   rcases Nat.mod_two_eq_zero_or_one m with h|h<;>simp[e,h]
 |f+1,.node l v r,0,m,x,_=>by
  cases m with
  |zero=>simp[fJ.l6,fJ.get]
  |succ m=>simp[fJ.l6,fJ.get]
 |f+1,.leaf,n+1,m,x,aM=>by
  have e (k:Nat):Nat.mod k 2=k %2:=rfl
  have aG (k:Nat):Nat.div k 2=k/2:=rfl
  have bt:=λj=>bV f .leaf (n/2) j x (by omega)
  rcases Nat.mod_two_eq_zero_or_one n with h|h
  · simp only[fJ.l6,e,h,aG]
    cases m with
    |zero=>simp[fJ.get]
    |succ m=>
     simp only[fJ.get,e,aG]
     rcases Nat.mod_two_eq_zero_or_one m with g|g
     · simp only[g,bt,fJ.nU]
       have:(m/2=n/2)<->(m+1=n+1):=by omega
       simp only[this]
     · simp only[g,fJ.nU]
       rw[if_neg (by omega)]
  · simp only[fJ.l6,e,h,aG]
    cases m with
    |zero=>simp[fJ.get]
    |succ m=>
     simp only[fJ.get,e,aG]
     rcases Nat.mod_two_eq_zero_or_one m with g|g
     · simp only[g,fJ.nU]
       rw[if_neg (by omega)]
     · simp only[g,bt,fJ.nU]
       have:(m/2=n/2)<->(m+1=n+1):=by omega
       simp only[this]
 |f+1,.node l v r,n+1,m,x,aM=>by
  have e (k:Nat):Nat.mod k 2=k %2:=rfl
  have aG (k:Nat):Nat.div k 2=k/2:=rfl
  have OA:=λj=>bV f l (n/2) j x (by omega)
  have Am:=λj=>bV f r (n/2) j x (by omega)
  rcases Nat.mod_two_eq_zero_or_one n with h|h
  · simp only[fJ.l6,e,h,aG]
    cases m with
    |zero=>simp[fJ.get]
    |succ m=>
     simp only[fJ.get,e,aG]
     rcases Nat.mod_two_eq_zero_or_one m with g|g
     · simp only[g,OA]
       have:(m/2=n/2)<->(m+1=n+1):=by omega
       simp only[this]
     · simp only[g]
       rw[if_neg (by omega)]
  · simp only[fJ.l6,e,h,aG]
    cases m with
    |zero=>simp[fJ.get]
    |succ m=>
     simp only[fJ.get,e,aG]
     rcases Nat.mod_two_eq_zero_or_one m with g|g
     · simp only[g]
       rw[if_neg (by omega)]
     · simp only[g,Am]
       have:(m/2=n/2)<->(m+1=n+1):=by omega
       simp only[this]
theorem aa.bV(h:aa)(b c:Nat)(o:Option cJ):(h.set b o).get c=if c=b then o else h.get c:=
 fJ.bV _ _ _ _ _ (Nat.lt_succ_self b)
theorem aa.e6(h:aa)(c:Nat)(o:cJ):(h.push o).get c=if c=h.n then some o else h.get c:=
 fJ.bV _ _ _ _ _ (Nat.lt_succ_self _)
@[simp] theorem aa.fR (h:aa) (b:Nat) (o:Option cJ):(h.set b o).n=h.n:=rfl
@[simp] theorem aa.e7 (h:aa) (o:cJ):(h.push o).n=h.n+1:=rfl
structure h3 where
 bo:Nat
 base:Nat
 size:Nat
abbrev bG:=Nat->Option h3
def fL(μ a4:bG):Prop:=∀b i,μ b=some i->a4 b=some i
theorem fL.refl(μ:bG):fL μ μ:=λ_ _ h=>h
theorem fL.trans{μ a4 Ho:bG}(h:fL μ a4)(an:fL a4 Ho):fL μ Ho:=λb i e=>an b i (h b i e)
def C4(i:h3)(off len:Nat):cE->Value->Prop
 |.exact c,v=>v=.slice (some ⟨i.bo,i.base+off,none⟩) len c
 |.a5 g_,v=>∃c,v=.slice (some ⟨i.bo,i.base+off,none⟩) len c/\len<=c/\off+c*g_=i.size
 |.dead,v=>len=0/\∃a c,v=.slice (some a) 0 c
mutual
def bn(μ:bG):J->Value->Prop
 |.bad,_=>True
 |.bool b,v=>v=.bool b
 |.int k n,v=>v=.int k n
 |.str s,v=>∃t,v=.string t/\t.data.toList=s
 |.bb,v=>v=.pointer none
 |.ptr b off,v=>∃i,μ b=some i/\v=.pointer (some ⟨i.bo,i.base+off,none⟩)
 |.aA,v=>v=.slice none 0 0
 |.slice b off len cap,v=>∃i,μ b=some i/\C4 i off len cap v
 |.iR,v=>v=.map none
 |.map r,v=>∃i,μ r=some i/\v=.map (some i.bo)
 |.gj,v=>v=.nilFunc
 |.fn f first caps,v=>∃dm cs,v=.func (.func f) ⟨dm⟩ ⟨cs⟩/\cy μ first dm/\cy μ caps cs
 |.ca l,v=>∃i,μ l=some i/\v=.func (.yield i.bo) ⟨[]⟩ ⟨[]⟩
 |.fy,v=>v=.nilIface
 |.iface t x,v=>∃y,v=.iface t y/\bn μ x y
 |.agg cs,v=>∃l,v=.agg ⟨l⟩/\cy μ cs l
 |.aL vs,v=>∃l,v=.tuple ⟨l⟩/\cy μ vs l
def cy(μ:bG):List J->List Value->Prop
 |[],l=>l=[]
 |a::as,l=>∃v vs,l=v::vs/\bn μ a v/\cy μ as vs
end
mutual
theorem bn.mono{μ a4:bG}(hle:fL μ a4):∀(a:J) (v:Value),bn μ a v->bn a4 a v
 |.bad,_,_=>trivial
 |.bool _,_,h=>h
 |.int _ _,_,h=>h
 |.str _,_,h=>h
 |.bb,_,h=>h
 |.ptr b off,_,⟨i,h,e⟩=>⟨i,hle _ _ h,e⟩
 |.aA,_,h=>h
 |.slice b off len cap,_,⟨i,h,e⟩=>⟨i,hle _ _ h,e⟩
 |.iR,_,h=>h
 |.map r,_,⟨i,h,e⟩=>⟨i,hle _ _ h,e⟩
 |.gj,_,h=>h
 |.fn f first caps,_,⟨dm,cs,e,ab,ae⟩=>⟨dm,cs,e,cy.mono hle _ _ ab,cy.mono hle _ _ ae⟩
 |.ca l,_,⟨i,h,e⟩=>⟨i,hle _ _ h,e⟩
 |.fy,_,h=>h
 |.iface t x,_,⟨y,e,h⟩=>⟨y,e,bn.mono hle _ _ h⟩
 |.agg cs,_,⟨l,e,h⟩=>⟨l,e,cy.mono hle _ _ h⟩
 |.aL cs,_,⟨l,e,h⟩=>⟨l,e,cy.mono hle _ _ h⟩
theorem cy.mono{μ a4:bG}(hle:fL μ a4):∀(as:List J) (vs:List Value),cy μ as vs->cy a4 as vs
 |[],_,h=>h
 |a::as,_,⟨v,vs,e,ab,ae⟩=>⟨v,vs,e,bn.mono hle _ _ ab,cy.mono hle _ _ ae⟩
end
mutual
theorem kU(μ:bG):∀v:Value,bn μ (oF v) v
 |.bool b=>rfl
 |.int k n=>rfl
 |.string s=>⟨s,rfl,rfl⟩
 |.pointer none=>rfl
 |.pointer (some _)=>trivial
 |.slice none 0 0=>rfl
 |.slice none 0 (_+1)=>trivial
 |.slice none (_+1) _=>trivial
 |.slice (some _) _ _=>trivial
 |.map none=>rfl
 |.map (some _)=>trivial
 |.nilFunc=>rfl
 |.nilIface=>rfl
 |.agg ⟨cs⟩=>⟨cs,rfl,C5 μ cs⟩
 |.tuple ⟨cs⟩=>⟨cs,rfl,C5 μ cs⟩
 |.float _ _=>trivial
 |.complex _ _ _=>trivial
 |.chan _=>trivial
 |.func _ _ _=>trivial
 |.iface _ _=>trivial
theorem C5(μ:bG):∀vs:List Value,cy μ (z3 vs) vs
 |[]=>rfl
 |v::vs=>⟨v,vs,rfl,kU μ v,C5 μ vs⟩
end
theorem cy.length{μ:bG}:∀{as:List J} {vs:List Value},cy μ as vs->as.length=vs.length
 |[],_,h=>by cases h;rfl
 |a::as,_,⟨v,vs,e,_,ae⟩=>by subst e;simp[cy.length ae]
theorem cy.append{μ:bG}:∀{as bs:List J} {vs us:List Value},cy μ as vs->cy μ bs us->cy μ (as++bs) (vs++us)
 |[],_,_,_,h,an=>by cases h;exact an
 |a::as,_,_,_,⟨v,vs,e,ab,ae⟩,an=>by subst e;exact⟨v,vs++_,rfl,ab,cy.append ae an⟩
theorem cy.get{μ:bG}:∀{as:List J} {vs:List Value} (_:cy μ as vs) {j:Nat} {a:J},as[j]? =some a->∃v,vs[j]? =some v/\bn μ a v
 |[],_,_,j,a,h=>by simp at h
 |x::as,_,⟨v,vs,e,ab,ae⟩,0,a,h=>by
  subst e;simp at h;subst h;exact⟨v,rfl,ab⟩
 |x::as,_,⟨v,vs,e,ab,ae⟩,j+1,a,h=>by
  subst e;simp at h;simpa using cy.get ae h
theorem cy.xy{μ:bG}:∀{as:List J} {vs:List Value},as.length=vs.length->(∀(j:Nat) (a:J),as[j]? =some a->∃v,vs[j]? =some v/\bn μ a v)->cy μ as vs
 |[],[],_,_=>rfl
 |[],_::_,h,_=>by simp at h
 |_::_,[],h,_=>by simp at h
 |a::as,v::vs,h,ah=>by
  refine⟨v,vs,rfl,?_,cy.xy (by simpa using h) λj x ad=>?_⟩
  · obtain⟨u,hu,r⟩:=ah 0 a rfl
    simp at hu;subst hu;exact r
  · simpa using ah (j+1) x (by simpa using ad)
theorem cy.map{μ:bG}{te:Type}(g:te->J)(cH:te->Value)(h:∀x,bn μ (g x) (cH x)):∀l:List te,cy μ (l.map g) (l.map cH)
 |[]=>rfl
 |x::l=>⟨_,_,rfl,h x,cy.map g cH h l⟩
theorem bn.cells{μ:bG}{a:J}{v:Value}(h:bn μ a v)(ag:a≠ .bad):cy μ a.cells v.cells.toList:=by
 cases a with
 |bad=>exact absurd rfl ag
 |agg cs=>obtain⟨l,rfl,aD⟩:=h;exact aD
 |aL vs=>obtain⟨l,rfl,aD⟩:=h;exact⟨_,_,rfl,⟨l,rfl,aD⟩,rfl⟩
 |bool b=>cases h;exact⟨_,_,rfl,rfl,rfl⟩
 |int k n=>cases h;exact⟨_,_,rfl,rfl,rfl⟩
 |str s=>obtain⟨t,rfl,e⟩:=h;exact⟨_,_,rfl,⟨t,rfl,e⟩,rfl⟩
 |bb=>cases h;exact⟨_,_,rfl,rfl,rfl⟩
 |ptr b off=>obtain⟨i,e,rfl⟩:=h;exact⟨_,_,rfl,⟨i,e,rfl⟩,rfl⟩
 |aA=>cases h;exact⟨_,_,rfl,rfl,rfl⟩
 |slice b off len cap=>
  obtain⟨i,e,ai⟩:=h
  have:v.cells=#[v]:=by
   cases cap with
   |exact c=>cases ai;rfl
   |a5 g_=>obtain⟨c,rfl,_⟩:=ai;rfl
   |dead=>obtain⟨_,a,c,rfl⟩:=ai;rfl
  rw[this];exact⟨_,_,rfl,⟨i,e,ai⟩,rfl⟩
 |iR=>cases h;exact⟨_,_,rfl,rfl,rfl⟩
 |map r=>obtain⟨i,e,rfl⟩:=h;exact⟨_,_,rfl,⟨i,e,rfl⟩,rfl⟩
 |gj=>cases h;exact⟨_,_,rfl,rfl,rfl⟩
 |fn f a b=>obtain⟨dm,cs,rfl,ab,ae⟩:=h;exact⟨_,_,rfl,⟨dm,cs,rfl,ab,ae⟩,rfl⟩
 |ca l=>obtain⟨i,e,rfl⟩:=h;exact⟨_,_,rfl,⟨i,e,rfl⟩,rfl⟩
 |fy=>cases h;exact⟨_,_,rfl,rfl,rfl⟩
 |iface t x=>obtain⟨y,rfl,bu⟩:=h;exact⟨_,_,rfl,⟨y,rfl,bu⟩,rfl⟩
theorem bn.xz{μ:bG}{a:J}{v:Value}(h:bn μ a v)(ai:a.cu=true):v.oneCell'=true:=by
 cases a with
 |bad=>simp[J.cu] at ai
 |agg cs=>simp[J.cu] at ai
 |aL vs=>simp[J.cu] at ai
 |bool b=>cases h;rfl
 |int k n=>cases h;rfl
 |str s=>obtain⟨t,rfl,e⟩:=h;rfl
 |bb=>cases h;rfl
 |ptr b off=>obtain⟨i,e,rfl⟩:=h;rfl
 |aA=>cases h;rfl
 |slice b off len cap=>
  obtain⟨i,e,ai⟩:=h
  cases cap with
  |exact c=>cases ai;rfl
  |a5 g_=>obtain⟨c,rfl,_⟩:=ai;rfl
  |dead=>obtain⟨_,a,c,rfl⟩:=ai;rfl
 |iR=>cases h;rfl
 |map r=>obtain⟨i,e,rfl⟩:=h;rfl
 |gj=>cases h;rfl
 |fn f a b=>obtain⟨dm,cs,rfl,ab,ae⟩:=h;rfl
 |ca l=>obtain⟨i,e,rfl⟩:=h;rfl
 |fy=>cases h;rfl
 |iface t x=>obtain⟨y,rfl,bu⟩:=h;rfl
def jP(need:Nat)(μ:bG)(r:a0)(cv:Array Value):Prop:=∀t,Nat.testBit need t=true->bn μ (r.get (hP t)) (cv.getD t undef)
theorem jP.mono{need:Nat}{μ a4:bG}{r:a0}{cv:Array Value}(hle:fL μ a4)(h:jP need μ r cv):jP need a4 r cv:=λt bh=>(h t bh).mono hle
inductive tf(μ:bG):bU->Deferred->Prop where
 |call (f:Nat) (args:List J) (cap vs:List Value) (h:cy μ args (vs++cap)):tf μ (.call f args) {target:=.fn (.func f) ⟨cap⟩,args:=⟨vs⟩}
 |collected (r:Nat) (i:h3) (h:μ r=some i):tf μ (.collected r) {target:=.collected i.bo,args:=#[]}
theorem tf.mono{μ a4:bG}(hle:fL μ a4){a:bU}{d:Deferred}(h:tf μ a d):tf a4 a d:=by
 cases h with
 |call f args cap vs h=>exact .call f args cap vs (h.mono hle)
 |collected r i h=>exact .collected r i (hle _ _ h)
def hr(μ:bG):List bU->List Deferred->Prop
 |[],l=>l=[]
 |a::as,l=>∃d bd,l=d::bd/\tf μ a d/\hr μ as bd
theorem hr.mono{μ a4:bG}(hle:fL μ a4):∀{as:List bU} {bd:List Deferred},hr μ as bd->hr a4 as bd
 |[],_,h=>h
 |_::_,_,⟨d,bd,e,ab,ae⟩=>⟨d,bd,e,ab.mono hle,hr.mono hle ae⟩
theorem hr.append{μ:bG}:∀{as bs:List bU} {bd es:List Deferred},hr μ as bd->hr μ bs es->hr μ (as++bs) (bd++es)
 |[],_,_,_,h,an=>by cases h;exact an
 |_::_,_,_,_,⟨d,bd,e,ab,ae⟩,an=>by subst e;exact⟨d,bd++_,rfl,ab,hr.append ae an⟩
def vn(μ:bG)(e:hC)(m:MapEntry):Prop:=bn μ e.key m.key/\bn μ e.val m.val/\e.born=m.born
def gU(μ:bG):List hC->List MapEntry->Prop
 |[],l=>l=[]
 |e::es,l=>∃m ms,l=m::ms/\vn μ e m/\gU μ es ms
theorem vn.mono{μ a4:bG}(hle:fL μ a4){e:hC}{m:MapEntry}(h:vn μ e m):vn a4 e m:=⟨h.1.mono hle,h.2.1.mono hle,h.2.2⟩
theorem gU.mono{μ a4:bG}(hle:fL μ a4):∀{es:List hC} {ms:List MapEntry},gU μ es ms->gU a4 es ms
 |[],_,h=>h
 |_::_,_,⟨m,ms,e,ab,ae⟩=>⟨m,ms,e,ab.mono hle,gU.mono hle ae⟩
def Hp(μ:bG)(cs:List J)(c:Array Value)(base:Nat):Prop:=∀(j:Nat) (v:J),cs[j]? =some v->∃u,c[base+j]? =some u/\bn μ v u
def Hq(k:eE)(cs:List J)(i:h3)(lo hi gV gW:Nat):Prop:=match k with
 |.own=>i.base=0/\i.size=cs.length/\gV=lo/\gW=hi
 |.a5=>cs.length<=i.size/\∀j,j<i.size->gV<=i.base+j->i.base+j<gW->lo<=j/\j<hi
 |.ro=>True
 |.fz=>True
def pH(μ:bG)(o:cJ)(i:h3)(w:World):Prop:=match o with
 |.cells cs el k lo hi=>∃c gV gW,w.heap[i.bo]? =some (.cells c el (gV,gW))/\Hp μ cs c i.base/\i.base+i.size=c.size/\Hq k cs i lo hi gV gW
 |.map es clock=>∃ents,w.heap[i.bo]? =some (.map ⟨ents⟩ clock)/\gU μ es ents
 |.rI s pos=>i.base=0/\∃full,w.heap[i.bo]? =some (.stringIter full pos)/\full.data.toList.drop pos=s
 |.mapIter none since seen last=>i.base=0/\w.heap[i.bo]? =some (.mapIter none since ⟨seen⟩ last)
 |.mapIter (some m) since seen last=>i.base=0/\∃j,μ m=some j/\w.heap[i.bo]? =some (.mapIter (some j.bo) since ⟨seen⟩ last)
 |.loop st gJ need m6 params as cr eU=>∃cv il fn,μ eU=some il/\w.heap[i.bo]? =some (.loop {state:=st,pending:=gJ,fn:=fn,tmps:=cv,params:=⟨params⟩,assign:=as,body:=cr,defers:=il.bo})/\jP need μ m6 cv/\jD cv.size as=true/\jD cv.size cr=true/\∀t∈params,t<cv.size
 |.defrd none=>w.heap[i.bo]? =some (.deferred none)
 |.defrd (some bd)=>∃l,w.heap[i.bo]? =some (.deferred (some l))/\hr μ bd l
 |.raw o=>i.base=0/\w.heap[i.bo]? =some o
theorem pH.mono{μ a4:bG}(hle:fL μ a4){o:cJ}{i:h3}{w w':World}(hw:w'.heap[i.bo]? =w.heap[i.bo]?)(h:pH μ o i w):pH a4 o i w':=by
 cases o with
 |cells cs el k lo hi=>
  obtain⟨c,gV,gW,ab,ae,aB⟩:=h
  exact⟨c,gV,gW,hw.trans ab,λj v e=>let⟨u,hu,r⟩:=ae j v e;⟨u,hu,r.mono hle⟩,aB⟩
 |map es clock=>obtain⟨ents,ab,ae⟩:=h;exact⟨ents,hw.trans ab,ae.mono hle⟩
 |rI s pos=>obtain⟨az,full,ab,ae⟩:=h;exact⟨az,full,hw.trans ab,ae⟩
 |mapIter m since seen last=>
  cases m with
  |none=>exact⟨h.1,hw.trans h.2⟩
  |some m=>obtain⟨az,j,ab,ae⟩:=h;exact⟨az,j,hle _ _ ab,hw.trans ae⟩
 |loop st gJ fn m6 params as cr eU=>obtain⟨cv,il,C6,ab,ae,aB,aP⟩:=h;exact⟨cv,il,C6,hle _ _ ab,hw.trans ae,aB.mono hle,aP⟩
 |defrd calls=>
  cases calls with
  |none=>exact hw.trans h
  |some bd=>obtain⟨l,ab,ae⟩:=h;exact⟨l,hw.trans ab,ae.mono hle⟩
 |raw o=>exact⟨h.1,hw.trans h.2⟩
def cJ.pI:cJ->Bool
 |.cells _ _ .ro _ _=>true
 |.raw _=>true
 |_=>false
structure bD(μ:bG)(H:aa)(w:World):Prop where
 rel:∀b o i,H.get b=some o->μ b=some i->pH μ o i w
 inj:∀b c i j,H.get b≠none->(∃o,H.get c=some o/\o.pI=false)->μ b=some i->μ c=some j->i.bo=j.bo->b=c
 lt:∀b i,μ b=some i->b<H.n/\i.bo<w.heap.size
 bound:∀b,H.n<=b->H.get b=none
structure cw(μ:bG)(H:aa)(w:World)(a4:bG)(bf:aa)(w':World):Prop where
 le:fL μ a4
 size:w.heap.size<=w'.heap.size
 n:H.n<=bf.n
 live:∀b,b<H.n->bf.get b≠none->H.get b≠none
 idle:∀b,b<H.n->μ b=none->bf.get b=H.get b
 old:∀r,r<w.heap.size->(∀b i,H.get b≠none->μ b=some i->i.bo≠r)->w'.heap[r]? =w.heap[r]?
 new:∀b i,μ b=none->a4 b=some i->H.n<=b/\(w.heap.size<=i.bo\/∃c o j,H.get c=some o/\o.pI=false/\μ c=some j/\j.bo=i.bo)
 ro:∀b o i,H.get b=some o->o.pI=true->μ b=some i->bf.get b=some o/\w'.heap[i.bo]? =w.heap[i.bo]?
 os:w'.os=w.os
 out:w'.output=w.output
 tape:w'.tape=w.tape
 drawn:w.drawn<=w'.drawn
theorem cw.refl(μ:bG)(H:aa)(w:World):cw μ H w μ H w where
 le:=fL.refl μ
 size:=Nat.le_refl _
 n:=Nat.le_refl _
 live:=λ_ _ h=>h
 idle:=λ_ _ _=>rfl
 old:=λ_ _ _=>rfl
 new:=λb i h an=>by rw[h] at an;cases an
 ro:=λ_ _ _ h _ _=>⟨h,rfl⟩
 os:=rfl
 out:=rfl
 tape:=rfl
 drawn:=Nat.le_refl _
theorem cw.trans{μ im An:bG}{H H1 ay:aa}{w bR b3:World}(ah:bD μ H w)(h7:bD im H1 bR)(h:cw μ H w im H1 bR)(an:cw im H1 bR An ay b3):cw μ H w An ay b3 where
 le:=h.le.trans an.le
 size:=Nat.le_trans h.size an.size
 n:=Nat.le_trans h.n an.n
 live:=λb ag aD=>h.live b ag (an.live b (Nat.lt_of_lt_of_le ag h.n) aD)
 idle:=λb ag hm=>by
  rw[<-h.idle b ag hm]
  refine an.idle b (Nat.lt_of_lt_of_le ag h.n) ?_
  cases ab:im b with
  |none=>rfl
  |some i=>exact absurd (h.new b i hm ab).1 (Nat.not_le.2 ag)
 old:=λr al aM=>by
  rw[an.old r (Nat.lt_of_lt_of_le al h.size),h.old r al aM]
  intro b i aD hm he
  cases Ao:μ b with
  |some j=>
   have:=h.le b j Ao
   rw[hm] at this;cases this
   exact aM b i (h.live b (ah.lt b i Ao).1 aD) Ao he
  |none=>
   obtain⟨_,hi|⟨c,o,j,ai,_,aV,oL⟩⟩:=h.new b i Ao hm
   · omega
   · exact aM c j (by rw[ai];simp) aV (oL.trans he)
 new:=λb i ag fe=>by
  cases ab:im b with
  |some j=>
   have:=an.le b j ab
   rw[fe] at this;cases this
   exact h.new b i ag ab
  |none=>
   obtain⟨aM,hi|⟨c,o,j,ai,iU,aV,oL⟩⟩:=an.new b i ab fe
   · exact⟨Nat.le_trans h.n aM,.inl (Nat.le_trans h.size hi)⟩
   · refine⟨Nat.le_trans h.n aM,?_⟩
     cases az:μ c with
     |some ku=>
      have:=h.le c ku az
      rw[aV] at this;cases this
      have vo:H.get c≠none:=h.live c (ah.lt c j az).1 (by rw[ai];simp)
      cases au:H.get c with
      |none=>exact absurd au vo
      |some hQ=>
       cases oM:hQ.pI with
       |false=>exact .inr ⟨c,hQ,j,au,oM,az,oL⟩
       |true=>
        have:=(h.ro c hQ j au oM az).1
        rw[ai] at this;cases this
        rw[iU] at oM;cases oM
     |none=>
      obtain⟨_,hi|⟨c',o',ku,pJ,OB,C7,OC⟩⟩:=h.new c j az aV
      · exact .inl (oL▸hi)
      · exact .inr ⟨c',o',ku,pJ,OB,C7,OC.trans oL⟩
 ro:=λb o i ag al hi=>by
  obtain⟨ab,ae⟩:=h.ro b o i ag al hi
  obtain⟨aB,aP⟩:=an.ro b o i ab al (h.le b i hi)
  exact⟨aB,aP.trans ae⟩
 os:=an.os.trans h.os
 out:=an.out.trans h.out
 tape:=an.tape.trans h.tape
 drawn:=Nat.le_trans h.drawn an.drawn
theorem bD.of_heap{μ:bG}{H:aa}{w w':World}(h:bD μ H w)(he:w'.heap=w.heap):bD μ H w' where
 rel:=λb o i ag hi=>(h.rel b o i ag hi).mono (fL.refl μ) (by rw[he])
 inj:=h.inj
 lt:=λb i hi=>by rw[he];exact h.lt b i hi
 bound:=h.bound
theorem cw.of_heap{μ:bG}{H:aa}{w w':World}(he:w'.heap=w.heap)(a7:w'.os=w.os)(aU:w'.output=w.output)(bh:w'.tape=w.tape)(aj:w.drawn<=w'.drawn:=by first|exact Nat.le_refl _|exact Nat.le_succ _|assumption):cw μ H w μ H w' where
 le:=fL.refl μ
 size:=by rw[he];exact Nat.le_refl _
 n:=Nat.le_refl _
 live:=λ_ _ h=>h
 idle:=λ_ _ _=>rfl
 old:=λ_ _ _=>by rw[he]
 new:=λb i h an=>by rw[h] at an;cases an
 ro:=λ_ _ _ h _ _=>⟨h,by rw[he]⟩
 os:=a7
 out:=aU
 tape:=bh
 drawn:=aj
def gX(μ:bG)(b:Nat)(i:h3):bG:=λc=>if c=b then some i else μ c
theorem gY(μ:bG)(b:Nat)(i:h3):gX μ b i b=some i:=by simp[gX]
theorem h4(μ:bG){b c:Nat}(i:h3)(h:c≠b):gX μ b i c=μ c:=by simp[gX,h]
theorem bD.fresh{μ:bG}{H:aa}{w:World}(h:bD μ H w):μ H.n=none:=by
 cases e:μ H.n with
 |none=>rfl
 |some i=>exact absurd (h.lt _ _ e).1 (Nat.lt_irrefl _)
theorem bD.oN{μ:bG}{H:aa}{w:World}(h:bD μ H w)(i:h3):fL μ (gX μ H.n i):=λb j e=>by
 rw[h4];exact e
 intro ag;subst ag;rw[h.fresh] at e;cases e
theorem bD.alloc{μ:bG}{H:aa}{w:World}(h:bD μ H w)(o:cJ)(x:Obj)(sz:Nat)
  (al:pH (gX μ H.n ⟨w.heap.size,0,sz⟩) o ⟨w.heap.size,0,sz⟩ (w.alloc x)):
  bD (gX μ H.n ⟨w.heap.size,0,sz⟩) (H.push o) (w.alloc x)/\cw μ H w (gX μ H.n ⟨w.heap.size,0,sz⟩) (H.push o) (w.alloc x):=by
 have hle:=h.oN ⟨w.heap.size,0,sz⟩
 have hold:∀r,r<w.heap.size->(w.alloc x).heap[r]? =w.heap[r]? :=λr al=>by
  simp only[World.alloc,Array.getElem?_push];rw[if_neg (by omega)]
 constructor
 · refine⟨λb ob i ag hi=>?_,λb c i j ag ai hi aV e=>?_,λb i hi=>?_,λb ag=>?_⟩
   · rw[aa.e6] at ag
     by_cases e:b=H.n
     · rw[if_pos e] at ag;subst e;cases ag
       rw[gY] at hi;cases hi
       exact al
     · rw[if_neg e] at ag;rw[h4 _ _ e] at hi
       exact(h.rel b ob i ag hi).mono hle (hold _ (h.lt b i hi).2)
   · by_cases aF:b=H.n
     · by_cases aG:c=H.n
       · rw[aF,aG]
       · subst aF;rw[gY] at hi;cases hi
         rw[h4 _ _ aG] at aV
         have:=(h.lt c j aV).2
         simp only at e;omega
     · by_cases aG:c=H.n
       · subst aG;rw[gY] at aV;cases aV
         rw[h4 _ _ aF] at hi
         have:=(h.lt b i hi).2
         simp only at e;omega
       · rw[h4 _ _ aF] at hi;rw[h4 _ _ aG] at aV
         rw[aa.e6,if_neg aF] at ag
         rw[aa.e6,if_neg aG] at ai
         exact h.inj b c i j ag ai hi aV e
   · by_cases e:b=H.n
     · subst e;rw[gY] at hi;cases hi;simp
     · rw[h4 _ _ e] at hi
       have:=h.lt b i hi
       simp only[aa.e7,World.size_alloc];omega
   · simp only[aa.e7] at ag
     rw[aa.e6,if_neg (by omega)];exact h.bound b (by omega)
 · refine⟨hle,by simp,by simp,λb ag aD=>?_,λb ag _=>(by rw[aa.e6,if_neg (by omega)]),λr al _=>hold r al,λb i ag fe=>?_,λb ob i ag _ hi=>?_,rfl,rfl,rfl,Nat.le_refl _⟩
   · rw[aa.e6,if_neg (by omega)] at aD;exact aD
   · by_cases e:b=H.n
     · subst e;rw[gY] at fe;cases fe;exact⟨Nat.le_refl _,.inl (Nat.le_refl _)⟩
     · rw[h4 _ _ e,ag] at fe;cases fe
   · have:=h.lt b i hi
     rw[aa.e6,if_neg (by omega)]
     exact⟨ag,hold _ this.2⟩
theorem bD.update{μ:bG}{H:aa}{w w':World}(h:bD μ H w){b:Nat}{o o':cJ}{i:h3}(ag:H.get b=some o)(iU:o.pI=false)(hi:μ b=some i)
  (hs:w'.heap.size=w.heap.size)(a7:∀r,r≠i.bo->w'.heap[r]? =w.heap[r]?)(xA:w'.os=w.os)(tg:w'.output=w.output)(C8:w'.tape=w.tape)(al:pH μ o' i w')(hdr:w.drawn<=w'.drawn:=by first|exact Nat.le_refl _|assumption):
  bD μ (H.set b (some o')) w'/\cw μ H w μ (H.set b (some o')) w':=by
 have vo:H.get b≠none:=by rw[ag];simp
 have qN:∀c,(H.set b (some o')).get c≠none->H.get c≠none:=λc ai=>by
  rw[aa.bV] at ai
  by_cases e:c=b
  · subst e;exact vo
  · rw[if_neg e] at ai;exact ai
 constructor
 · refine⟨λc rP j ai aV=>?_,λc d j k ai aj=>h.inj c d j k (qN c ai) (by
     obtain⟨x,ad,pK⟩:=aj
     rw[aa.bV] at ad
     by_cases e:d=b
     · subst e;exact⟨o,ag,iU⟩
     · rw[if_neg e] at ad;exact⟨x,ad,pK⟩),λc j aV=>by rw[hs];exact h.lt c j aV,λc ai=>?_⟩
   · rw[aa.bV] at ai
     by_cases e:c=b
     · subst e;rw[if_pos rfl] at ai;cases ai
       rw[hi] at aV;cases aV;exact al
     · rw[if_neg e] at ai
       refine(h.rel c rP j ai aV).mono (fL.refl μ) (a7 _ λed=>e (h.inj c b j i (by rw[ai];simp) ⟨o,ag,iU⟩ aV hi ed))
   · rw[aa.bV,if_neg]
     · exact h.bound c ai
     · intro e;subst e;have:=(h.lt c i hi).1;simp at ai;omega
 · refine⟨fL.refl μ,by omega,by simp,λc _ ai=>qN c ai,λc _ hm=>(by rw[aa.bV,if_neg];intro e;subst e;rw[hi] at hm;cases hm),λr al aM=>a7 r λe=>aM b i vo hi e.symm,λc j ab ae=>(by rw[ab] at ae;cases ae),λc rP j ai rQ aV=>?_,xA,tg,C8,hdr⟩
   have eb:c≠b:=by intro e;subst e;rw[ag] at ai;cases ai;rw[iU] at rQ;cases rQ
   refine⟨by rw[aa.bV,if_neg eb];exact ai,a7 _ λe=>eb (h.inj c b j i (by rw[ai];simp) ⟨o,ag,iU⟩ aV hi e)⟩
end aC
namespace aC
open Go
theorem add_plain(b o n:Nat):(⟨b,o,none⟩:Addr).add n=⟨b,o+n,none⟩:=by
 unfold Addr.add
 by_cases h:n=0
 · simp[h]
 · simp[h]
theorem qO{α:Type}:∀(n:Nat) (l:List α),nth n l=l[n]?
 |0,[]=>rfl
 |_+1,[]=>rfl
 |0,_::_=>rfl
 |n+1,_::l=>by simpa[nth] using qO n l
theorem m9{α:Type}:∀(n:Nat) (l:List α),jB n l=l.drop n
 |0,l=>by simp[jB]
 |_+1,[]=>by simp[jB]
 |n+1,_::l=>by simpa[jB] using m9 n l
theorem th:∀(n:Nat) (l r:List J),takeN n l=some r->n<=l.length/\r=l.take n
 |0,l,r,h=>by simp[takeN] at h;subst h;simp
 |_+1,[],r,h=>by simp[takeN] at h
 |n+1,a::l,r,h=>by
  simp only[takeN] at h
  cases e:takeN n l with
  |none=>simp[e] at h
  |some r'=>
   simp[e] at h;subst h
   obtain⟨ab,ae⟩:=th n l r' e
   simp[ae];omega
theorem Ap:∀(n:Nat) (vs cs r:List J),eP n vs cs=some r->
  r.length=cs.length/\(vs≠[]->n+vs.length<=cs.length)/\(∀v∈vs,v.cu=true)/\∀j,r[j]? =if n<=j/\j<n+vs.length then vs[j-n]? else cs[j]?
 |0,[],cs,r,h=>by
  simp[eP] at h;subst h
  refine⟨rfl,λh=>absurd rfl h,λv aJ=>(by cases aJ),λj=>by rw[if_neg (by simp)]⟩
 |0,_::_,[],r,h=>by simp[eP] at h
 |0,v::vs,c::cs,r,h=>by
  simp only[eP] at h
  cases ai:v.cu with
  |false=>simp[ai] at h
  |true=>
   simp only[ai] at h
   cases e:eP 0 vs cs with
   |none=>simp[e] at h
   |some r'=>
    simp[e] at h;subst h
    obtain⟨ab,ae,aB,aP⟩:=Ap 0 vs cs r' e
    refine⟨by simp[ab],λ_=>?_,λx ad=>?_,λj=>?_⟩
    · cases vs with
      |nil=>simp
      |cons a l=>have:=ae (by simp);simp at this⊢;omega
    · cases ad with
      |head=>exact ai
      |tail _ ad=>exact aB x ad
    · cases j with
      |zero=>simp
      |succ j=>simpa using aP j
 |n+1,[],cs,r,h=>by
  simp[eP] at h;subst h
  refine⟨rfl,λh=>absurd rfl h,λv aJ=>(by cases aJ),λj=>by rw[if_neg (by simp)]⟩
 |n+1,_::_,[],r,h=>by simp[eP] at h
 |n+1,v::vs,c::cs,r,h=>by
  simp only[eP] at h
  cases e:eP n (v::vs) cs with
  |none=>simp[e] at h
  |some r'=>
   simp[e] at h;subst h
   obtain⟨ab,ae,aB,aP⟩:=Ap n (v::vs) cs r' e
   refine⟨by simp[ab],λ_=>?_,aB,λj=>?_⟩
   · have:=ae (by simp);simp at this⊢;omega
   · cases j with
     |zero=>simp
     |succ j=>
      have:=aP j
      simp only[List.getElem?_cons_succ,this,List.length_cons]
      have aF:(n+1<=j+1/\j+1<n+1+(vs.length+1))<->(n<=j/\j<n+(vs.length+1)):=by omega
      have aG:j+1-(n+1)=j-n:=by omega
      simp only[aF,aG]
theorem Hr{w:World}{bo el gV gW:Nat}{c:Array Value}(h:w.heap[bo]? =some (.cells c el (gV,gW)))(k:Nat):w.cell? ⟨bo,k,none⟩=c[k]? :=by
 simp[World.cell?,h]
theorem Hs{μ:bG}{H:aa}{w:World}(ah:bD μ H w){b off:Nat}{i:h3}(hi:μ b=some i){cs:List J}{el lo fM:Nat}{k:eE}(ag:H.get b=some (.cells cs el k lo fM))
  {v:J}(aJ:cs[off]? =some v):∃u,w.cell? ⟨i.bo,i.base+off,none⟩=some u/\bn μ v u:=by
 obtain⟨c,gV,gW,ab,ae,_⟩:=ah.rel b _ i ag hi
 obtain⟨u,hu,r⟩:=ae off v aJ
 exact⟨u,by rw[Hr ab,hu],r⟩
theorem Ht{P:Program}{w:World}{a:Addr}{u:Value}(h:w.cell? a=some u):(_root_.Go.load a).run P w=.ok u w:=by
 rw[run_load];simp[h]
theorem OD{P:Program}{μ:bG}{H:aa}{w:World}(ah:bD μ H w){b:Nat}{i:h3}(hi:μ b=some i){cs:List J}{el lo fM:Nat}{k:eE}(ag:H.get b=some (.cells cs el k lo fM))(off:Nat):
  ∀(n s:Nat) (acc:Array Value) (rR:List J),takeN n (jB (off+s) cs)=some rR->
   ∃us:List Value,(loadCellsFrom ⟨i.bo,i.base+off,none⟩ s n acc).run P w=.ok (acc++us.toArray) w/\cy μ rR us:=by
 intro n
 induction n with
 |zero=>
  intro s acc rR h
  simp[takeN] at h;subst h
  exact⟨[],by simp[loadCellsFrom],rfl⟩
 |succ n bt=>
  intro s acc rR h
  rw[m9] at h
  cases aj:cs.drop (off+s) with
  |nil=>rw[aj] at h;simp[takeN] at h
  |cons a l=>
   rw[aj] at h
   simp only[takeN] at h
   cases e:takeN n l with
   |none=>simp[e] at h
   |some r=>
    simp[e] at h;subst h
    have bl:cs[off+s]? =some a:=by
     have:=congrArg (·[0]?) aj
     simpa[List.getElem?_drop] using this
    have aD:l=jB (off+(s+1)) cs:=by
     rw[m9]
     have:=congrArg (List.drop 1) aj
     simp only[List.drop_drop,List.drop_succ_cons,List.drop_zero] at this
     rw[<-this];congr 1
    obtain⟨u,hu,al⟩:=Hs ah hi ag bl
    obtain⟨us,ab,ae⟩:=bt (s+1) (acc.push u) r (by rw[<-aD];exact e)
    refine⟨u::us,?_,⟨u,us,rfl,al,ae⟩⟩
    have rS:w.cell? ((⟨i.bo,i.base+off,none⟩:Addr).add s)=some u:=by rw[add_plain,Nat.add_assoc];exact hu
    simp only[loadCellsFrom,Sem.run_bind,Ht rS,Result.andThen_ok,ab]
    congr 1
    apply Array.ext'
    simp
theorem rT{P:Program}{μ:bG}{H:aa}{w:World}(ah:bD μ H w){b off n:Nat}{i:h3}(hi:μ b=some i){rR:List J}(h:loadCells H b off n=some rR):
  ∃us:List Value,(_root_.Go.loadCells ⟨i.bo,i.base+off,none⟩ n).run P w=.ok ⟨us⟩ w/\cy μ rR us:=by
 unfold loadCells at h
 split at h
 · rename_i cs el k lo fM ag
   obtain⟨us,ab,ae⟩:=OD (P:=P) ah hi ag off n 0 #[] rR h
   exact⟨us,by simpa[_root_.Go.loadCells] using ab,ae⟩
 · cases h
theorem C9{P:Program}{μ:bG}{H:aa}{w:World}(ah:bD μ H w){b off:Nat}{i:h3}(hi:μ b=some i){v:J}(h:av H b off=some v):
  ∃u,(_root_.Go.load ⟨i.bo,i.base+off,none⟩).run P w=.ok u w/\bn μ v u:=by
 unfold av at h
 split at h
 · rename_i cs el k lo fM ag
   rw[qO] at h
   obtain⟨u,hu,al⟩:=Hs ah hi ag h
   exact⟨u,Ht hu,al⟩
 · cases h
theorem Hu(P:Program)(bo k:Nat):∀(vs:List Value) (w:World) (i:Nat) (c:Array Value) (el gV gW:Nat),w.heap[bo]? =some (.cells c el (gV,gW))->
  (∀v∈vs,v.oneCell'=true)->k+i+vs.length<=c.size->(∀j,k+i<=j->j<k+i+vs.length->¬(gV<=j/\j<gW))->
  ∃w' c',(_root_.Go.storeCells ⟨bo,k,none⟩ vs i).run P w=.ok () w'/\w'.heap[bo]? =some (.cells c' el (gV,gW))/\(∀r,r≠bo->w'.heap[r]? =w.heap[r]?)/\w'.heap.size=w.heap.size/\
   w'.os=w.os/\w'.output=w.output/\(w'.tape=w.tape/\w'.drawn=w.drawn)/\c'.size=c.size/\∀j,c'[j]? =if k+i<=j/\j<k+i+vs.length then vs[j-(k+i)]? else c[j]? :=by
 intro vs
 induction vs with
 |nil=>
  intro w i c el gV gW ag _ _ _
  exact⟨w,c,by simp[_root_.Go.storeCells],ag,λ_ _=>rfl,rfl,rfl,rfl,⟨rfl,rfl⟩,rfl,λj=>by rw[if_neg (by simp)]⟩
 |cons v vs bt=>
  intro w i c el gV gW ag ai hs hf
  simp only[List.length_cons] at hs hf
  have cB:k+i<c.size:=by omega
  have rU:w.cell? ⟨bo,k+i,none⟩=some c[k+i]:=by rw[Hr ag];exact Array.getElem?_eq_getElem cB
  have Aq:w.frozen? ⟨bo,k+i,none⟩=false:=by
   have:=hf (k+i) (by omega) (by omega)
   simp only[World.frozen?,ag]
   cases ab:decide (gV<=k+i) with
   |false=>rfl
   |true=>
    cases ae:decide (k+i<gW) with
    |false=>rfl
    |true=>exact absurd ⟨of_decide_eq_true ab,of_decide_eq_true ae⟩ this
  have jo:(w.setCell ⟨bo,k+i,none⟩ v).heap[bo]? =some (.cells (c.setIfInBounds (k+i) v) el (gV,gW)):=by
   simp[World.setCell,Array.getElem?_modify,ag]
  obtain⟨w',c',ab,ae,aB,aP,cg,dN,fE,gl,gz⟩:=bt (w.setCell ⟨bo,k+i,none⟩ v) (i+1) (c.setIfInBounds (k+i) v) el gV gW jo (λx ad=>ai x (.tail _ ad)) (by simp;omega)
   (λj ab5 pL=>hf j (by omega) (by omega))
  refine⟨w',c',?_,ae,λr al=>?_,?_,cg,dN,fE,by simpa using gl,λj=>?_⟩
  · simp only[_root_.Go.storeCells,Sem.run_bind,add_plain,run_store P w ⟨bo,k+i,none⟩ v .plain (ai v (.head _)),rU,Aq,Bool.false_eq_true,if_false,Result.andThen_ok,ab]
  · rw[aB r al];simp only[World.setCell,Array.getElem?_modify]
    rw[if_neg (λe=>al e.symm)]
  · rw[aP];simp[World.setCell]
  · rw[gz j]
    by_cases e:j=k+i
    · subst e
      rw[if_neg (by omega),if_pos (by simp),Array.getElem?_setIfInBounds]
      simp[cB]
    · by_cases aG:k+(i+1)<=j/\j<k+(i+1)+vs.length
      · rw[if_pos aG,if_pos (by simp only[List.length_cons];omega)]
        have:j-(k+i)=(j-(k+(i+1)))+1:=by omega
        rw[this];simp
      · rw[if_neg aG,if_neg (by simp only[List.length_cons];omega),Array.getElem?_setIfInBounds]
        rw[if_neg (λed=>e ed.symm)]
theorem cy.xz{μ:bG}:∀{as:List J} {vs:List Value},cy μ as vs->(∀a∈as,a.cu=true)->∀v∈vs,v.oneCell'=true
 |[],_,h,_=>by cases h;intro v aJ;cases aJ
 |a::as,_,⟨v,vs,e,ab,ae⟩,ai=>by
  subst e
  intro x ad
  cases ad with
  |head=>exact ab.xz (ai a (.head _))
  |tail _ ad=>exact cy.xz ae (λa bl=>ai a (.tail _ bl)) x ad
theorem OE{k:eE}{lo hi off n:Nat}(hw:j9 k lo hi off n=true){cs:List J}{i:h3}{gV gW:Nat}(ax:Hq k cs i lo hi gV gW)(eV:n=0\/off+n<=i.size):
  ∀j,i.base+off<=j->j<i.base+off+n->¬(gV<=j/\j<gW):=by
 intro j ab ae ⟨aB,aP⟩
 cases k with
 |ro=>simp[j9] at hw
 |fz=>simp[j9] at hw
 |own=>
  obtain⟨ag,hs,rfl,rfl⟩:=ax
  simp only[j9,Bool.or_eq_true,Nat.ble_eq] at hw
  omega
 |a5=>
  obtain⟨hs,hf⟩:=ax
  simp only[j9,Bool.or_eq_true,Nat.ble_eq] at hw
  have:=hf (j-i.base) (by omega) (by omega) (by omega)
  omega
theorem xB{P:Program}{μ:bG}{H:aa}{w:World}(ah:bD μ H w){b off:Nat}{i:h3}(hi:μ b=some i){vs:List J}{us:List Value}(aJ:cy μ vs us){bf:aa}
  (h:storeCells H b off vs=some bf):
  ∃w',(_root_.Go.storeCells ⟨i.bo,i.base+off,none⟩ us).run P w=.ok () w'/\bD μ bf w'/\cw μ H w μ bf w':=by
 unfold storeCells at h
 split at h
 · rename_i cs el k lo fM ag
   split at h
   · rename_i hw
     split at h
     · rename_i b9 aU
       cases h
       obtain⟨cO,eo,oO,pM⟩:=Ap _ _ _ _ aU
       obtain⟨c,gV,gW,ab,ae,aB,aP⟩:=ah.rel b _ i ag hi
       have hlen:=aJ.length
       have bX:vs≠[]->off+vs.length<=i.size/\i.base+off+vs.length<=c.size:=λeb=>by
        have:=eo eb
        have rV:=ae (cs.length-1) (cs[cs.length-1]'(by cases vs with|nil=>exact absurd rfl eb|cons a l=>simp at this;omega)) (List.getElem?_eq_getElem _)
        obtain⟨u,hu,_⟩:=rV
        have cB:i.base+(cs.length-1)<c.size:=by
         rcases Nat.lt_or_ge (i.base+(cs.length-1)) c.size with h|h
         · exact h
         · rw[Array.getElem?_eq_none h] at hu;cases hu
        have Ar:0<vs.length:=by cases vs with|nil=>exact absurd rfl eb|cons a l=>simp
        cases k with
        |ro=>simp[j9] at hw
        |fz=>simp[j9] at hw
        |own=>obtain⟨dG,eJ,_⟩:=aP;omega
        |a5=>obtain⟨dG,_⟩:=aP;omega
       by_cases eb:vs=[]
       · subst eb
         have:us=[]:=by cases us with|nil=>rfl|cons a l=>simp at hlen
         subst this
         have kV:b9=cs:=by
          apply List.ext_getElem?
          intro j;rw[pM j,if_neg (by simp)]
         subst kV
         obtain⟨bq,a9⟩:=ah.update (w':=w) ag (by cases k<;>first|rfl|simp[j9] at hw) hi rfl (λ_ _=>rfl) rfl rfl rfl (ah.rel b _ i ag hi)
         exact⟨w,by simp[_root_.Go.storeCells],bq,a9⟩
       · obtain⟨s1,s2⟩:=bX eb
         obtain⟨w',c',aF,aG,bJ,dh,iq,dL,dz,dX,fb⟩:=Hu P i.bo (i.base+off) us w 0 c el gV gW ab (aJ.xz oO) (by omega)
          (by have:=OE hw aP (.inr s1);rw[hlen] at this;simpa using this)
         obtain⟨bq,a9⟩:=ah.update (w':=w') (o':=.cells b9 el k lo fM) ag (by cases k<;>first|rfl|simp[j9] at hw) hi dh bJ iq dL dz.1 (hdr:=Nat.le_of_eq dz.2.symm)
          ⟨c',gV,gW,aG,λj v aV=>by
           rw[pM j] at aV
           rw[fb]
           by_cases al:off<=j/\j<off+vs.length
           · rw[if_pos al] at aV
             rw[if_pos (by omega)]
             have:i.base+j-(i.base+off+0)=j-off:=by omega
             rw[this];exact aJ.get aV
           · rw[if_neg al] at aV
             rw[if_neg (by omega)]
             exact ae j v aV,by omega,by
           cases k with
           |ro=>trivial
           |fz=>trivial
           |own=>obtain⟨dG,eJ,h8⟩:=aP;exact⟨dG,by omega,h8⟩
           |a5=>obtain⟨dG,eJ⟩:=aP;exact⟨by omega,eJ⟩⟩
         exact⟨w',aF,bq,a9⟩
     · cases h
   · cases h
 · cases h
theorem World.heap_alloc_new(w:World)(x:Obj):(w.alloc x).heap[w.heap.size]? =some x:=by unfold World.alloc;simp
theorem As{P:Program}{μ:bG}{H:aa}{w:World}(ah:bD μ H w){el b:Nat}{cs:List J}{us:List Value}{bf:aa}(aJ:cy μ cs us)(h:newRow H el cs=some (b,bf)):
  (_root_.Go.newRow el ⟨us⟩).run P w=.ok ⟨w.heap.size,0,none⟩ (w.alloc (.cells ⟨us⟩ el))/\b=H.n/\gX μ H.n ⟨w.heap.size,0,us.length⟩ b=some ⟨w.heap.size,0,us.length⟩/\
   bD (gX μ H.n ⟨w.heap.size,0,us.length⟩) bf (w.alloc (.cells ⟨us⟩ el))/\cw μ H w (gX μ H.n ⟨w.heap.size,0,us.length⟩) bf (w.alloc (.cells ⟨us⟩ el)):=by
 unfold newRow at h
 split at h
 · cases h
   have hle:=ah.oN ⟨w.heap.size,0,us.length⟩
   obtain⟨bq,a9⟩:=ah.alloc (.cells cs el .own 0 0) (.cells ⟨us⟩ el) us.length
    ⟨⟨us⟩,0,0,by exact World.heap_alloc_new _ _,λj v aV=>by
      obtain⟨u,hu,al⟩:=aJ.get aV
      exact⟨u,by simpa using hu,al.mono hle⟩,by simp,rfl,aJ.length.symm,rfl,rfl⟩
   exact⟨by simp[_root_.Go.newRow],rfl,gY _ _ _,bq,a9⟩
 · cases h
section types
variable {P:Program} {w:World} {t:TypeId}
theorem run_typeInfo{i:TypeInfo}(h:P.info? t=some i):(typeInfo t).run P w=.ok i w:=by simp[typeInfo,h]
theorem b7{d:TypeDesc}(h:P.underlying t=some d):(underlying t).run P w=.ok d w:=by simp[underlying,h]
theorem run_sizeOf{n:Nat}(h:dQ P t=some n):(_root_.Go.sizeOf t).run P w=Result.ok n w:=by
 unfold dQ at h
 split at h
 · rename_i i hi;cases h;simp[_root_.Go.sizeOf,run_typeInfo hi]
 · cases h
theorem vp{b:Bool}(h:m7 P t=some b):(isAgg t).run P w=.ok b w:=by
 unfold m7 at h
 cases hu:P.underlying t with
 |none=>rw[hu] at h;cases h
 |some d=>
  rw[hu] at h
  simp only[isAgg,Sem.run_bind,b7 hu,Result.andThen_ok]
  cases d<;>cases h<;>rfl
theorem mE{z:J}(h:fq P t=some z):∃v,(zeroValue t).run P w=.ok v w/\z=oF v/\z≠ .bad:=by
 unfold fq at h
 split at h
 · rename_i i hi
   split at h
   · rename_i v aJ
     split at h
     · cases h
     · rename_i a eb
       cases h
       exact⟨v,by simp[zeroValue,run_typeInfo hi,aJ],rfl,eb⟩
   · cases h
 · cases h
end types
end aC
namespace aC
open Go
def fS(P:Program)(μ:bG)(H:aa)(w:World)(s:Sem Value)(v:J)(bf:aa):Prop:=
 ∃a4 w' v',s.run P w=.ok v' w'/\bn a4 v v'/\bD a4 bf w'/\cw μ H w a4 bf w'
theorem fS.same{P:Program}{μ:bG}{H:aa}{w:World}{s:Sem Value}{v:J}{v':Value}(ah:bD μ H w)(hs:s.run P w=.ok v' w)(aJ:bn μ v v'):fS P μ H w s v H:=
 ⟨μ,w,v',hs,aJ,ah,cw.refl _ _ _⟩
section
variable {P:Program} {μ:bG} {H:aa} {w:World}
theorem OF(ah:bD μ H w){e:TypeId}{z:J}(bj:fq P e=some z){b:Nat}{bf:aa}(al:newRow H e z.cells=some (b,bf)):
  fS P μ H w (Instr.alloc e true (.tuple #[])) (.ptr b 0) bf:=by
 obtain⟨v,aJ,rfl,ag⟩:=mE (w:=w) bj
 have ai:=(kU μ v).cells ag
 obtain⟨ab,rfl,ae,aB,aP⟩:=As (P:=P) ah ai al
 refine⟨_,_,.pointer (some ⟨w.heap.size,0,none⟩),?_,⟨_,ae,by simp⟩,aB,aP⟩
 simp[Instr.alloc,aJ,newVar,ab]
theorem OG(ah:bD μ H w){e:TypeId}{x:J}{v:Value}(aJ:bn μ x v){b:Nat}{bf:aa}(al:newRow H e x.cells=some (b,bf)):
  fS P μ H w (Instr.box e v) (.ptr b 0) bf:=by
 have ag:x≠ .bad:=by intro h;rw[h] at al;simp[newRow,J.cells,J.cu] at al
 obtain⟨ab,rfl,ae,aB,aP⟩:=As (P:=P) ah (aJ.cells ag) al
 refine⟨_,_,.pointer (some ⟨w.heap.size,0,none⟩),?_,⟨_,ae,by simp⟩,aB,aP⟩
 simp[Instr.box,newVar,ab]
theorem OH(ah:bD μ H w){t:TypeId}{b off:Nat}{v:Value}(aJ:bn μ (.ptr b off) v):
  (∀n cs,m7 P t=some true->dQ P t=some n->loadCells H b off n=some cs->fS P μ H w (Instr.loadAt t v) (.agg cs) H)/\
  (∀x,m7 P t=some false->av H b off=some x->fS P μ H w (Instr.loadAt t v) x H):=by
 obtain⟨i,hi,rfl⟩:=aJ
 constructor
 · intro n cs bl aM aD
   obtain⟨us,ab,ae⟩:=rT (P:=P) ah hi aD
   exact .same ah (v':=.agg ⟨us⟩) (by simp[Instr.loadAt,Instr.sureAddr,loadVar,vp bl,run_sizeOf aM,ab]) ⟨us,rfl,ae⟩
 · intro x bl aD
   obtain⟨u,ab,ae⟩:=C9 (P:=P) ah hi aD
   exact .same ah (v':=u) (by simp only[Instr.loadAt,Instr.sureAddr,loadVar,Sem.run_bind,Sem.run_pure,Result.andThen_ok,vp bl,Bool.false_eq_true,if_false,ab]) ae
theorem OI(ah:bD μ H w){t:TypeId}{b off n:Nat}{v u:Value}{x:J}(aJ:bn μ (.ptr b off) v)(ad:bn μ x u)(ag:x≠ .bad)(aM:dQ P t=some n)(aD:x.cells.length=n)
  {bf:aa}(hs:storeCells H b off x.cells=some bf):
  ∃w',(Instr.storeAt t v u).run P w=.ok () w'/\bD μ bf w'/\cw μ H w μ bf w':=by
 obtain⟨i,hi,rfl⟩:=aJ
 have ai:=ad.cells ag
 obtain⟨w',ab,ae,aB⟩:=xB (P:=P) ah hi ai hs
 refine⟨w',?_,ae,aB⟩
 have bX:u.cells.size=n:=by have:=ai.length;rw[aD] at this;simpa using this.symm
 simp[Instr.storeAt,Instr.sureAddr,storeVar,run_sizeOf aM,bX,ab]
theorem Hv(off:Nat):∀(l:List Value) (s:Nat) (cs:Array Value),off+s+l.length<=cs.size->
  ((l.zipIdx s).foldl (λcs (x:Value×Nat)=>cs.setIfInBounds (off+x.2) x.1) cs).size=cs.size/\
  ∀j:Nat,((l.zipIdx s).foldl (λcs (x:Value×Nat)=>cs.setIfInBounds (off+x.2) x.1) cs)[j]? =if off+s<=j/\j<off+s+l.length then l[j-(off+s)]? else cs[j]?
 |[],s,cs,_=>by
  refine⟨rfl,λj=>by rw[if_neg (by simp)];rfl⟩
 |a::l,s,cs,h=>by
  simp only[List.length_cons] at h
  obtain⟨ab,ae⟩:=Hv off l (s+1) (cs.setIfInBounds (off+s) a) (by simp;omega)
  simp only[List.zipIdx_cons,List.foldl_cons]
  refine⟨by rw[ab];simp,λj=>?_⟩
  rw[ae j]
  by_cases e:j=off+s
  · subst e
    rw[if_neg (by omega),if_pos (by simp),Array.getElem?_setIfInBounds]
    simp;omega
  · by_cases aG:off+(s+1)<=j/\j<off+(s+1)+l.length
    · rw[if_pos aG,if_pos (by simp only[List.length_cons];omega)]
      have:j-(off+s)=(j-(off+(s+1)))+1:=by omega
      rw[this];simp
    · rw[if_neg aG,if_neg (by simp only[List.length_cons];omega),Array.getElem?_setIfInBounds,if_neg (λed=>e ed.symm)]
theorem xC(place:Nat->Option (Nat×Nat)){te:Type}(g:te->J)(cH:te->Value)(au:∀x,bn μ (g x) (cH x)):∀(ps:List (Nat×te)) (cs r:List J) (c:Array Value),cy μ cs c.toList->
  mw place cs (ps.map λp=>(p.1,g p.2))=some r->∃c':List Value,Instr.fill place c (ps.map λp=>(p.1,cH p.2))=some ⟨c'⟩/\cy μ r c'
 |[],cs,r,c,ai,h=>by
  simp[mw] at h;subst h
  exact⟨c.toList,by simp[Instr.fill],ai⟩
 |(k,x)::ps,cs,r,c,ai,h=>by
  simp only[List.map_cons] at h⊢
  have aJ:=au x
  generalize g x=v at h aJ
  generalize cH x=u at aJ⊢
  have ag:v≠ .bad:=by intro e;subst e;simp[mw] at h
  have xD:∃off size b9,place k=some (off,size)/\v.cells.length=size/\off+size<=cs.length/\eP off v.cells cs=some b9/\mw place b9 (ps.map λp=>(p.1,g p.2))=some r:=by
   cases v<;>first
    |exact absurd rfl ag
    |(simp only[mw] at h
      split at h
      · cases h
      · rename_i off size kW
        split at h
        · rename_i bX
          simp only[Bool.and_eq_true,Nat.ble_eq] at bX
          split at h
          · rename_i b9 C_
            exact⟨off,size,b9,kW,Nat.eq_of_beq_eq_true bX.1,bX.2,C_,h⟩
          · cases h
        · cases h)
  obtain⟨off,size,b9,kW,bX,hbound,C_,rW⟩:=xD
  obtain⟨cO,eo,oO,pM⟩:=Ap _ _ _ _ C_
  have kx:=aJ.cells ag
  have aD:=kx.length
  have rX:=ai.length
  have aB:c.toList.length=c.size:=by simp
  have OJ:u.cells.size=size:=by rw[<-bX,aD];simp
  obtain⟨f1,f2⟩:=Hv off u.cells.toList 0 c (by simp;omega)
  have OK:(u.cells.zipIdx.foldl (λcs (x:Value×Nat)=>cs.setIfInBounds (off+x.2) x.1) c)=((u.cells.toList.zipIdx 0).foldl (λcs (x:Value×Nat)=>cs.setIfInBounds (off+x.2) x.1) c):=by
   rw[<-Array.foldl_toList,Array.toList_zipIdx]
  have key:cy μ b9 (u.cells.zipIdx.foldl (λcs (x:Value×Nat)=>cs.setIfInBounds (off+x.2) x.1) c).toList:=by
   rw[OK]
   refine cy.xy (by rw[cO,rX];simpa using f1.symm) λj a bl=>?_
   rw[pM j] at bl
   rw[Array.getElem?_toList,f2 j]
   have oP:u.cells.toList.length=v.cells.length:=aD.symm
   by_cases al:off<=j/\j<off+v.cells.length
   · rw[if_pos al] at bl;rw[if_pos (by omega)]
     exact kx.get (by simpa using bl)
   · rw[if_neg al] at bl;rw[if_neg (by omega)]
     simpa using ai.get bl
  obtain⟨c',aq,ak⟩:=xC place g cH au ps b9 r _ key rW
  refine⟨c',?_,ak⟩
  simp only[Instr.fill,kW,OJ]
  rw[if_neg (by simp;omega)]
  exact aq
theorem OL{t:TypeId}{n:Nat}(h:dQ P t=some n):P.cellsOf t=n:=by
 unfold dQ at h
 split at h
 · rename_i i hi;cases h;simp[Program.cellsOf,hi]
 · cases h
theorem run_places(w:World):∀l:List Field,(l.all λf=>(dQ P f.type).isSome)=true->
  (l.mapM (λf=>do pure (f.offset,<-_root_.Go.sizeOf f.type):Field->Sem (Nat×Nat))).run P w=.ok (l.map λf=>(f.offset,P.cellsOf f.type)) w
 |[],_=>rfl
 |f::l,h=>by
  simp only[List.all_cons,Bool.and_eq_true] at h
  obtain⟨n,aM⟩:=Option.isSome_iff_exists.1 h.1
  simp only[List.mapM_cons,Sem.run_bind,run_sizeOf aM,Result.andThen_ok,Sem.run_pure,run_places w l h.2,List.map_cons,OL aM]
theorem OM(ah:bD μ H w)(g:Operand->J)(cH:Operand->Value)(au:∀x,bn μ (g x) (cH x)){t:TypeId}{z:J}(bj:fq P t=some z){dm:Array Field}(hu:P.underlying t=some (.struct dm))
  (gm:(dm.toList.all λf=>(dQ P f.type).isSome)=true)(parts:Array (Nat×Operand)){cs:List J}
  (hf:mw (λi=>(dm[i]?).map λf=>(f.offset,P.cellsOf f.type)) z.cells (parts.toList.map λp=>(p.1,g p.2))=some cs):
  fS P μ H w (Instr.build t (parts.map λ(i,x)=>(i,cH x))) (.agg cs) H:=by
 obtain⟨v,aJ,rfl,ag⟩:=mE (w:=w) bj
 have ai:=(kU μ v).cells ag
 obtain⟨c',ab,ae⟩:=xC _ g cH au parts.toList _ cs v.cells ai hf
 have aU:=run_places (P:=P) w dm.toList gm
 refine .same ah (v':=.agg ⟨c'⟩) ?_ ⟨c',rfl,ae⟩
 have hm:(dm.mapM (λf=>do pure (f.offset,<-_root_.Go.sizeOf f.type):Field->Sem (Nat×Nat))).run P w=.ok (dm.map λf=>(f.offset,P.cellsOf f.type)) w:=by
  obtain⟨l⟩:=dm
  have e:(l.toArray.mapM (λf=>do pure (f.offset,<-_root_.Go.sizeOf f.type):Field->Sem (Nat×Nat)))=List.toArray<$>l.mapM (λf=>do pure (f.offset,<-_root_.Go.sizeOf f.type)):=List.mapM_toArray
  refine(congrArg (λs:Sem (Array (Nat×Nat))=>s.run P w) e).trans ?_
  simp only[Sem.run_map]
  rw[show(Sem.run P (List.mapM (λf=>do pure (f.offset,<-_root_.Go.sizeOf f.type):Field->Sem (Nat×Nat)) l) w)=_ from aU];simp
 have ON:(λi:Nat=>(dm.map λf=>(f.offset,P.cellsOf f.type))[i]?)=λi=>(dm[i]?).map λf=>(f.offset,P.cellsOf f.type):=by
  funext i;simp
 simp only[Instr.build,Sem.run_bind,aJ,Result.andThen_ok,b7 hu,hm,ON,Array.toList_map,ab]
 rfl
theorem OO(ah:bD μ H w)(g:Operand->J)(cH:Operand->Value)(au:∀x,bn μ (g x) (cH x)){t e:TypeId}{n sz:Nat}{z:J}(bj:fq P t=some z)(hu:P.underlying t=some (.array n e))
  (hs:dQ P e=some sz)(parts:Array (Nat×Operand)){cs:List J}
  (hf:mw (λi=>some (i*sz,sz)) z.cells (parts.toList.map λp=>(p.1,g p.2))=some cs):
  fS P μ H w (Instr.build t (parts.map λ(i,x)=>(i,cH x))) (.agg cs) H:=by
 obtain⟨v,aJ,rfl,ag⟩:=mE (w:=w) bj
 have ai:=(kU μ v).cells ag
 obtain⟨c',ab,ae⟩:=xC _ g cH au parts.toList _ cs v.cells ai hf
 refine .same ah (v':=.agg ⟨c'⟩) ?_ ⟨c',rfl,ae⟩
 simp only[Instr.build,Sem.run_bind,aJ,Result.andThen_ok,b7 hu,run_sizeOf hs,Array.toList_map,ab]
 rfl
theorem Hw{α:Type}(n:Nat)(l:List α):(gv n l).length=n*l.length:=by
 induction n with
 |zero=>simp[gv]
 |succ n bt=>simp[gv,bt,Nat.succ_mul];omega
theorem Hx{α:Type}:∀(n:Nat) (l:List α) (j:Nat),j<n*l.length->(gv n l)[j]? =l[j %l.length]?
 |0,l,j,h=>by simp at h
 |n+1,l,j,h=>by
  simp only[gv]
  by_cases e:j<l.length
  · rw[List.getElem?_append_left e,Nat.mod_eq_of_lt e]
  · rw[List.getElem?_append_right (by omega),Hx n l (j-l.length) (by rw[Nat.succ_mul] at h;omega)]
    have:(j-l.length) %l.length=j %l.length:=by
     have ah:j=(j-l.length)+l.length:=by omega
     conv=>rhs;rw[ah,Nat.add_mod_right]
    rw[this]
theorem xE{nV:List J}{zero:Array Value}(bj:cy μ nV zero.toList){sz:Nat}(hs:nV.length=sz)(n:Nat):
  cy μ (gv n nV) ((Array.range (n*sz)).map (λi=>zero[i %zero.size]!)).toList:=by
 have aD:=bj.length
 have aB:zero.toList.length=zero.size:=by simp
 refine cy.xy (by rw[Hw,hs];simp) λj a bl=>?_
 have aV:j<n*nV.length:=by
  rcases Nat.lt_or_ge j (n*nV.length) with h|h
  · exact h
  · rw[List.getElem?_eq_none (by rw[Hw];exact h)] at bl;cases bl
 rw[Hx n nV j aV] at bl
 obtain⟨u,hu,al⟩:=bj.get bl
 refine⟨u,?_,al⟩
 have Ar:0<nV.length:=by
  rcases Nat.eq_zero_or_pos nV.length with h|h
  · rw[h] at aV;simp at aV
  · exact h
 have cB:j %zero.size<zero.size:=Nat.mod_lt _ (by omega)
 have aF:nV.length=zero.size:=by omega
 rw[aF] at hu
 rw[Array.getElem?_toList] at hu
 rw[Array.getElem?_toList,Array.getElem?_map,Array.getElem?_range]
 rw[if_pos (by rw[<-hs];exact aV)]
 simp only[Option.map_some]
 rw[Array.getElem?_eq_getElem cB] at hu
 simp only[Option.some.injEq] at hu
 rw[getElem!_pos zero _ cB,hu]
theorem OP(ah:bD μ H w)(g:Operand->J)(cH:Operand->Value)(au:∀x,bn μ (g x) (cH x)){t e:TypeId}{len sz:Nat}{z:J}(hu:P.underlying t=some (.slice e))(hs:dQ P e=some sz)
  (bj:fq P e=some z)(hle:len*sz<=16777216)(pN:z.cells.length=sz)(parts:Array (Nat×Operand)){cs:List J}
  (hf:mw (λi=>some (i*sz,sz)) (if len*sz=0 then[] else gv len z.cells) (parts.toList.map λp=>(p.1,g p.2))=some cs){b:Nat}{bf:aa}(al:newRow H e cs=some (b,bf)):
  fS P μ H w (Instr.buildSlice t len (parts.map λ(i,x)=>(i,cH x))) (.slice b 0 len (.exact len)) bf:=by
 obtain⟨v,aJ,rfl,ag⟩:=mE (w:=w) bj
 have ai:=(kU μ v).cells ag
 have oQ:¬(len*sz>2^24):=by omega
 have key:∀zero:Array Value,cy μ (if len*sz=0 then[] else gv len (oF v).cells) ((Array.range (len*sz)).map (λi=>zero[i %zero.size]!)).toList->
   (∀r:Result Value,r=(match Instr.fill (λi=>some (i*sz,sz)) ((Array.range (len*sz)).map (λi=>zero[i %zero.size]!)) (parts.toList.map λp=>(p.1,cH p.2)) with
    |some cells=>do pure (.slice (some (<-_root_.Go.newRow e cells)) len len)
    |none=>stuck "buildSlice: a part of the wrong size" :Sem Value).run P w->(Instr.buildSlice t len (parts.map λ(i,x)=>(i,cH x))).run P w=r)->
   fS P μ H w (Instr.buildSlice t len (parts.map λ(i,x)=>(i,cH x))) (.slice b 0 len (.exact len)) bf:=by
  intro zero qP fr
  obtain⟨c',ab,ae⟩:=xC _ g cH au parts.toList _ cs _ qP hf
  obtain⟨a1,rfl,bL,cm,cn⟩:=As (P:=P) ah ae al
  refine⟨_,_,.slice (some ⟨w.heap.size,0,none⟩) len len,?_,⟨_,bL,by simp[C4]⟩,cm,cn⟩
  refine fr _ ?_
  rw[ab]
  simp[a1]
 by_cases az:len*sz=0
 · refine key #[] (by rw[if_pos az,az];simp[cy]) λr al=>?_
   rw[al]
   simp only[Instr.buildSlice,Sem.run_bind,b7 hu,Result.andThen_ok,run_sizeOf hs,if_neg oQ,if_pos az,Sem.run_pure,Array.toList_map]
   generalize Instr.fill _ _ _=F
   cases F<;>rfl
 · refine key v.cells (by rw[if_neg az];exact xE ai pN len) λr al=>?_
   rw[al]
   simp only[Instr.buildSlice,Sem.run_bind,b7 hu,Result.andThen_ok,run_sizeOf hs,if_neg oQ,if_neg az,Sem.run_pure,Array.toList_map,aJ]
   generalize Instr.fill _ _ _=F
   cases F<;>rfl
end
end aC
namespace aC
open Go
theorem rY(n:Nat)(h:n<9223372036854775808):IntKind.wrap .i64 (n:Int)=(n:Int):=by
 have e:((n:Int) %18446744073709551616)=n:=by omega
 have aG:(2:Int)^64=18446744073709551616:=by rfl
 have bJ:(2:Int)^63=9223372036854775808:=by rfl
 simp only[IntKind.wrap,IntKind.bits,IntKind.signed,aG,bJ,e,Bool.true_and,decide_eq_true_eq,Nat.add_one_sub_one]
 rw[if_neg (by show¬((2:Int)^63<=n);rw[bJ];omega)]
section
variable {P:Program} {μ:bG} {H:aa} {w:World}
theorem OQ(ah:bD μ H w){t e:TypeId}{l c:Nat}{i:TypeInfo}{z:J}{kl kc:IntKind}(hu:P.underlying t=some (.slice e))(hi:P.info? e=some i)(bj:fq P e=some z)(rX:l<=c)
  (vq:c*(i.bytes+1)<=1099511627776)(pN:z.cells.length=i.size){b:Nat}{bf:aa}(al:newRow H e (if c*i.size=0 then[] else gv c z.cells)=some (b,bf)):
  fS P μ H w (Instr.makeSlice t (.int kl l) (.int kc c)) (.slice b 0 l (.exact c)) bf:=by
 obtain⟨v,aJ,rfl,ag⟩:=mE (w:=w) bj
 have ai:=(kU μ v).cells ag
 have Da:c<=1099511627776:=Nat.le_trans (Nat.le_mul_of_pos_right c (by omega)) vq
 have rZ:i.bytes*c<=1099511627776:=by
  have:c*i.bytes<=c*(i.bytes+1):=Nat.mul_le_mul_left c (by omega)
  rw[Nat.mul_comm];omega
 have xF:∀n:Nat,n<=1099511627776->IntKind.wrap .i64 (n:Int)=(n:Int):=λn aM=>rY n (by omega)
 have lO:=xF l (by omega)
 have xG:=xF c Da
 have ti:¬((c:Int)<0||(i.bytes:Int)*(c:Int)>2^48||(l:Int)<0||(l:Int)>(c:Int))=true:=by
  have ab:((i.bytes:Int)*(c:Int))<=1099511627776:=by
   have az:((i.bytes*c:Nat):Int)<=1099511627776:=by omega
   rw[Int.natCast_mul] at az;exact az
  have ae:(2:Int)^48=281474976710656:=by rfl
  generalize (i.bytes:Int)*(c:Int)=q at ab⊢
  rw[ae]
  simp only[Bool.or_eq_true,decide_eq_true_eq]
  omega
 have key:∀zero:Array Value,cy μ (if c*i.size=0 then[] else gv c (oF v).cells) ((Array.range (c*i.size)).map (λj=>zero[j %zero.size]!)).toList->
   (Instr.makeSlice t (.int kl l) (.int kc c)).run P w=(do let a<-_root_.Go.newRow e ((Array.range (c*i.size)).map (λj=>zero[j %zero.size]!));pure (.slice (some a) l c):Sem Value).run P w->
   fS P μ H w (Instr.makeSlice t (.int kl l) (.int kc c)) (.slice b 0 l (.exact c)) bf:=by
  intro zero qP fr
  obtain⟨a1,rfl,bL,cm,cn⟩:=As (P:=P) ah qP al
  refine⟨_,_,.slice (some ⟨w.heap.size,0,none⟩) l c,?_,⟨_,bL,by simp[C4]⟩,cm,cn⟩
  rw[fr]
  simp only[Sem.run_bind,Sem.run_pure]
  have:(⟨((Array.range (c*i.size)).map (λj=>zero[j %zero.size]!)).toList⟩:Array Value)=((Array.range (c*i.size)).map (λj=>zero[j %zero.size]!)):=rfl
  rw[this] at a1
  rw[a1];rfl
 have bX:(_root_.Go.sizeOf e).run P w=.ok i.size w:=by simp[_root_.Go.sizeOf,run_typeInfo hi]
 by_cases az:c*i.size=0
 · refine key #[] (by rw[if_pos az,az];simp[cy]) ?_
   simp only[Instr.makeSlice,Sem.run_bind,b7 hu,Result.andThen_ok,asInt,asIntOf,Sem.run_pure,run_typeInfo hi,lO,xG]
   rw[if_neg ti]
   simp[bX,az]
 · refine key v.cells (by rw[if_neg az];exact xE ai pN c) ?_
   simp only[Instr.makeSlice,Sem.run_bind,b7 hu,Result.andThen_ok,asInt,asIntOf,Sem.run_pure,run_typeInfo hi,lO,xG]
   rw[if_neg ti]
   simp[bX,az,aJ]
theorem OR{x:J}{v:Value}(aJ:bn μ x v)(ad:(∃b o,x=.ptr b o)\/(∃b o n c,x=.slice b o n c)\/(∃f a b,x=.fn f a b)\/∃t y,x=.iface t y):
  ∀(o:Oper) (op:Operand) (cH:Operand->Value),cH op=v->o.op=.nilCheck op->(execOp cH o).run P w=.ok (.value v) w:=by
 intro o op cH OS a7
 simp only[execOp,a7,OS]
 rcases ad with⟨b,o',rfl⟩|⟨b,o',n,c,rfl⟩|⟨f,a,b,rfl⟩|⟨t,y,rfl⟩
 · obtain⟨i,_,rfl⟩:=aJ;rfl
 · obtain⟨i,_,ai⟩:=aJ
   cases c with
   |exact c=>cases ai;rfl
   |a5 g_=>obtain⟨c,rfl,_⟩:=ai;rfl
   |dead=>obtain⟨_,a,c,rfl⟩:=ai;rfl
 · obtain⟨dm,cs,rfl,_,_⟩:=aJ;rfl
 · obtain⟨At,rfl,_⟩:=aJ;rfl
theorem OT(op:BinOp)(t:TypeId)(k:IntKind)(x y:Int)(gO:op≠ .shl/\op≠ .shr):binOp op t (.int k x) (.int k y)=match op with
  |.add|.sub|.mul=>Op.intArith op k x y
  |.quo|.rem=>Op.intDiv op k x y
  |.and|.or|.xor|.andNot=>Op.intBits op k x y
  |_=>Op.intCmp op x y:=by
 cases op<;>first
  |(exact absurd rfl gO.1)
  |(exact absurd rfl gO.2)
  |simp[binOp]
theorem OU{op:BinOp}{k:IntKind}{x y:Int}{v:J}(h:arith op k x y=some v)(gO:op≠ .shl/\op≠ .shr)(t:TypeId):
  ∃u,(binOp op t (.int k x) (.int k y)).run P w=.ok u w/\bn μ v u:=by
 rw[OT op t k x y gO]
 cases op<;>simp only[arith] at h
 case shl=>cases h
 case shr=>cases h
 case quo=>
  split at h
  · cases h
  · rename_i bu;cases h;exact⟨_,by simp only[Op.intDiv,if_neg bu];rfl,rfl⟩
 case rem=>
  split at h
  · cases h
  · rename_i bu;cases h;exact⟨_,by simp only[Op.intDiv,if_neg bu];rfl,rfl⟩
 all_goals (cases h;exact⟨_,rfl,rfl⟩)
theorem Hy{op:BinOp}{k k':IntKind}{x y:Int}{v:J}(h:l8 op k x y=some v)(t:TypeId):
  ∃u,(binOp op t (.int k x) (.int k' y)).run P w=.ok u w/\bn μ v u:=by
 unfold l8 at h
 split at h
 · cases h
 · rename_i bu
   cases op<;>simp only[] at h<;>first
    |(cases h;done)
    |(cases h;exact⟨_,by simp[binOp,Op.shift,bu],rfl⟩)
theorem Hz(b:ByteArray):∀(n i:Nat) (r:List UInt8),b.size-i=n->ByteArray.toList.loop b i r=r.reverse++b.data.toList.drop i
 |0,i,r,h=>by
  rw[ByteArray.toList.loop]
  have hs:b.data.toList.length=b.size:=Array.length_toList
  rw[if_neg (by omega),List.drop_eq_nil_of_le (by omega)];simp
 |n+1,i,r,h=>by
  rw[ByteArray.toList.loop]
  have hs:b.data.toList.length=b.size:=Array.length_toList
  rw[if_pos (by omega),Hz b n (i+1) _ (by omega)]
  rw[List.drop_eq_getElem_cons (i:=i) (by omega)]
  have:b.get! i=b.data.toList[i]'(by omega):=by
   have ae:i<b.data.size:=by have:=Array.length_toList (xs:=b.data);omega
   show b.data[i]! =_
   rw[getElem!_pos b.data i ae];simp
  simp[this]
theorem r0(s:ByteArray):s.toList=s.data.toList:=by
 unfold ByteArray.toList
 rw[Hz s _ 0 [] rfl];simp
theorem oR:∀a b:List UInt8,cF a b=(a==b)
 |[],[]=>rfl
 |[],_::_=>rfl
 |_::_,[]=>rfl
 |a::x,b::y=>by
  have bt:=oR x y
  simp only[cF,List.cons_beq_cons]
  cases e:Nat.beq a.toNat b.toNat with
  |true=>
   have:a=b:=UInt8.toNat_inj.1 (Nat.eq_of_beq_eq_true e)
   subst this;simp[bt]
  |false=>
   have:(a==b)=false:=by
    rw[beq_eq_false_iff_ne];intro h;subst h;simp at e
   simp[this]
theorem Db:∀a b:List UInt8,en a b=Op.bytesLess a b
 |[],[]=>rfl
 |[],_::_=>rfl
 |_::_,[]=>rfl
 |a::x,b::y=>by
  have bt:=Db x y
  simp only[en,Op.bytesLess]
  cases e:Nat.beq a.toNat b.toNat with
  |true=>
   have:a=b:=UInt8.toNat_inj.1 (Nat.eq_of_beq_eq_true e)
   subst this;simp[bt]
  |false=>
   have ab:(a==b)=false:=by
    rw[beq_eq_false_iff_ne];intro h;subst h;simp at e
   have ae:decide (a<b)=Nat.blt a.toNat b.toNat:=by
    rw[Bool.eq_iff_iff];simp[UInt8.lt_iff_toNat_lt]
   simp[ab,ae]
theorem HA:∀a b:List UInt8,(Op.bytesLess a b||(a==b))=!Op.bytesLess b a
 |[],[]=>rfl
 |[],_::_=>rfl
 |_::_,[]=>rfl
 |a::x,b::y=>by
  have bt:=HA x y
  simp only[Op.bytesLess,List.cons_beq_cons]
  by_cases h:a=b
  · subst h
    have:¬(a<a):=UInt8.lt_irrefl a
    simpa[this] using bt
  · have eb:(a==b)=false:=beq_eq_false_iff_ne.2 h
    have OV:(b==a)=false:=beq_eq_false_iff_ne.2 (λe=>h e.symm)
    simp only[eb,OV,Bool.false_and,Bool.or_false]
    rw[Bool.eq_iff_iff]
    simp only[decide_eq_true_eq,Bool.not_eq_true',decide_eq_false_iff_not,UInt8.lt_iff_toNat_lt]
    have:a.toNat≠b.toNat:=λe=>h (UInt8.toNat_inj.1 e)
    omega
theorem OW{op:BinOp}{a b:ByteArray}{v:J}(h:fA op a.data.toList b.data.toList=some v)(t:TypeId):∃u,(binOp op t (.string a) (.string b)).run P w=.ok u w/\bn μ v u:=by
 have bl:=r0 a
 have ag:=r0 b
 have ab:=oR a.data.toList b.data.toList
 have ae:=Db a.data.toList b.data.toList
 have aB:=Db b.data.toList a.data.toList
 have bh:=HA a.data.toList b.data.toList
 have xH:a.data.toList.length=a.size:=Array.length_toList
 have HB:b.data.toList.length=b.size:=Array.length_toList
 cases op<;>simp only[fA] at h
 case add=>
  split at h
  · cases h
  · rename_i aD
    cases h
    refine⟨.string (a++b),?_,⟨a++b,rfl,by simp[ByteArray.data_append]⟩⟩
    rw[xH,HB] at aD
    simp only[binOp,Op.stringOp]
    rw[if_neg aD];rfl
 case eql=>cases h;exact⟨_,rfl,congrArg Value.bool (by rw[bl,ag,ab])⟩
 case neq=>cases h;exact⟨_,rfl,congrArg Value.bool (by rw[bl,ag,ab])⟩
 case lss=>cases h;exact⟨_,rfl,congrArg Value.bool (by rw[bl,ag,ae])⟩
 case leq=>cases h;exact⟨_,rfl,congrArg Value.bool (by rw[bl,ag,aB];exact bh)⟩
 case gtr=>cases h;exact⟨_,rfl,congrArg Value.bool (by rw[bl,ag,aB,bh,Bool.not_not])⟩
 case geq=>cases h;exact⟨_,rfl,congrArg Value.bool (by rw[bl,ag,ae])⟩
 all_goals cases h
def nW(μ:bG):Option J->Option Value->Prop
 |none,none=>True
 |some a,some v=>bn μ a v
 |_,_=>False
theorem nW.map(g:Operand->J)(cH:Operand->Value)(au:∀x,bn μ (g x) (cH x))(o:Option Operand):nW μ (o.map g) (o.map cH):=by
 cases o with
 |none=>trivial
 |some x=>exact au x
theorem HC{a:J}{n:Nat}(h:gb a=some n){v:Value}(aJ:bn μ a v):∃k,v=.int k (n:Int):=by
 unfold gb at h
 split at h
 · rename_i k m;cases h;exact⟨k,aJ⟩
 · cases h
theorem Dc{n y:Nat}{k:IntKind}(h:n<=y)(c:BoundsCode):(Instr.sliceBound (.int k (n:Int)) y c).run P w=.ok n w:=by
 simp only[Instr.sliceBound,asIntOf,Sem.run_bind,Sem.run_pure,Result.andThen_ok]
 rw[if_pos ⟨by omega,by omega⟩]
 simp
theorem HD{d n:Nat}{o:Option J}{o':Option Value}(h:jM d o=some n)(al:nW μ o o'):(o'=none/\n=d/\o=none)\/∃k a,o=some a/\o'=some (.int k (n:Int)):=by
 cases o with
 |none=>cases o' with
  |none=>simp[jM] at h;exact .inl ⟨rfl,h.symm,rfl⟩
  |some _=>exact al.elim
 |some a=>cases o' with
  |none=>exact al.elim
  |some v=>obtain⟨k,e⟩:=HC (μ:=μ) h al;exact .inr ⟨k,a,rfl,by rw[e]⟩
theorem oS{len cap l h m:Nat}{lo hi mx:Option J}{oT fM mx':Option Value}(m_:nW μ lo oT)(kX:nW μ hi fM)(jq:nW μ mx mx')
  (ag:bounds len cap lo hi mx=some (l,h,m))(b:Bool):(Instr.sliceBounds b len cap oT fM mx').run P w=.ok (l,h,m) w/\l<=h/\h<=m/\m<=cap/\(mx=none->m=cap):=by
 unfold bounds at ag
 cases em:jM cap mx with
 |none=>rw[em] at ag;cases ag
 |some c9=>
  rw[em] at ag
  simp only at ag
  cases hm:Nat.ble c9 cap with
  |false=>rw[hm] at ag;cases ag
  |true=>
   rw[hm] at ag
   simp only at ag
   have Dd:=Nat.le_of_ble_eq_true hm
   split at ag
   · cases ag
   · rename_i ah Au
     cases De:Nat.ble ah c9 with
     |false=>rw[De] at ag;cases ag
     |true=>
      rw[De] at ag
      simp only at ag
      have HE:=Nat.le_of_ble_eq_true De
      cases el:jM 0 lo with
      |none=>rw[el] at ag;cases ag
      |some bK=>
       rw[el] at ag
       simp only at ag
       cases aD:Nat.ble bK ah with
       |false=>rw[aD] at ag;cases ag
       |true=>
        rw[aD] at ag
        simp only[Option.some.injEq,Prod.mk.injEq] at ag
        obtain⟨rfl,rfl,rfl⟩:=ag
        have Av:=Nat.le_of_ble_eq_true aD
        have OX:(fM=none/\mx'=none/\ah=len)\/∃k,fM=some (.int k (ah:Int)):=by
         cases hi with
         |none=>cases fM with
          |some _=>exact kX.elim
          |none=>cases mx with
           |some _=>simp at Au
           |none=>cases mx' with
            |some _=>exact jq.elim
            |none=>simp at Au;exact .inl ⟨rfl,rfl,Au.symm⟩
         |some a=>cases fM with
          |none=>exact kX.elim
          |some v=>
           have fs:gb a=some ah:=by cases mx<;>simpa using Au
           obtain⟨k,e⟩:=HC (μ:=μ) fs kX
           exact .inr ⟨k,by rw[e]⟩
        refine⟨?_,Av,HE,Dd,λe=>by rw[e] at em;simp[jM] at em;exact em.symm⟩
        rcases HD em jq with⟨aF,aG,_⟩|⟨bx,_,_,aF⟩<;>rcases OX with⟨bJ,dh,iq⟩|⟨bI,bJ⟩<;>rcases HD el m_ with⟨dL,dz,_⟩|⟨cP,_,_,dL⟩<;>
         first
         |(exfalso;simp[aF] at dh;done)
         |(subst_vars;simp[Instr.sliceBounds,Dc Dd,Dc HE,Dc Av])
end
end aC
namespace aC
open Go
section
variable {P:Program} {μ:bG} {H:aa} {w:World}
theorem OY(t:ByteArray)(l h:Nat)(ah:h<=t.size):(t.extract l h).data.toList=List.take (h-l) (jB l t.data.toList):=by
 rw[m9]
 simp only[ByteArray.data_extract,Array.toList_extract,List.extract_eq_take_drop]
theorem xI{m n:Nat}(h:m<=n):Nat.ble m n=true:=Nat.ble_eq_true_of_le h
theorem Df{len k c:Nat}{lo hi mx:Option J}{l h m:Nat}(ag:bounds len k lo hi mx=some (l,h,m))(ax:k<=c):bounds len c lo hi mx=some (l,h,if mx.isNone then c else m):=by
 have fin:∀(c9 jr:Nat) (E:Option Nat),c9<=jr->
   (match E with
   |none=>none
   |some ah=>match Nat.ble ah c9 with
    |false=>none
    |true=>match jM 0 lo with
     |none=>none
     |some l=>match Nat.ble l ah with
      |false=>none
      |true=>some (l,ah,c9))=some (l,h,m)->
   (match E with
   |none=>none
   |some ah=>match Nat.ble ah jr with
    |false=>none
    |true=>match jM 0 lo with
     |none=>none
     |some l=>match Nat.ble l ah with
      |false=>none
      |true=>some (l,ah,jr))=some (l,h,jr):=by
  intro c9 jr E hm gA
  cases E with
  |none=>cases gA
  |some ah=>
   simp only at gA⊢
   cases ab:Nat.ble ah c9 with
   |false=>rw[ab] at gA;cases gA
   |true=>
    rw[ab] at gA
    rw[xI (Nat.le_trans (Nat.le_of_ble_eq_true ab) hm)]
    simp only at gA⊢
    cases aD:jM 0 lo with
    |none=>rw[aD] at gA;cases gA
    |some bK=>
     rw[aD] at gA
     simp only at gA⊢
     cases aP:Nat.ble bK ah with
     |false=>rw[aP] at gA;cases gA
     |true=>rw[aP] at gA;simp only[Option.some.injEq,Prod.mk.injEq] at gA⊢;exact⟨gA.1,gA.2.1,trivial⟩
 unfold bounds at ag⊢
 cases mx with
 |none=>
  have aF:jM k none=some k:=rfl
  have aG:jM c none=some c:=rfl
  rw[aF] at ag;rw[aG]
  simp only at ag⊢
  rw[xI (Nat.le_refl k)] at ag;rw[xI (Nat.le_refl c)]
  simp only[Option.isNone_none,if_true] at ag⊢
  cases hi with
  |none=>exact fin k c (some len) ax ag
  |some a=>exact fin k c (gb a) ax ag
 |some tj=>
  have aF:jM k (some tj)=gb tj:=rfl
  have aG:jM c (some tj)=gb tj:=rfl
  rw[aF] at ag;rw[aG]
  cases em:gb tj with
  |none=>rw[em] at ag;cases ag
  |some c9=>
   rw[em] at ag
   simp only at ag⊢
   cases ab:Nat.ble c9 k with
   |false=>rw[ab] at ag;cases ag
   |true=>
    rw[ab] at ag
    rw[xI (Nat.le_trans (Nat.le_of_ble_eq_true ab) ax)]
    simp only[Option.isNone_some,Bool.false_eq_true,if_false] at ag⊢
    have OZ:c9=m:=by
     cases hi<;>simp only at ag
     · cases ag
     · split at ag<;>try cases ag
       split at ag<;>try cases ag
       split at ag<;>try cases ag
       split at ag<;>first|cases ag;rfl|cases ag
    subst OZ
    cases hi<;>exact ag
theorem O0(ah:bD μ H w){t:TypeId}{x:J}{bF:Value}(ad:bn μ x bF){lo hi mx:Option J}{oT fM mx':Option Value}(m_:nW μ lo oT)(kX:nW μ hi fM)(jq:nW μ mx mx'){v:J}
  (h:d_ P H t x lo hi mx=some v):fS P μ H w (Instr.sliceAt t bF oT fM mx') v H:=by
 unfold d_ at h
 split at h
 ·
  rename_i s hu
  obtain⟨bs,rfl,rfl⟩:=ad
  cases mx with
  |some _=>cases h
  |none=>
   simp only at h
   cases mx' with
   |some _=>exact jq.elim
   |none=>
    split at h
    · rename_i l ag m hR
      cases h
      have bX:bs.data.toList.length=bs.size:=Array.length_toList
      rw[bX] at hR
      obtain⟨bq,a9,ee,ht,_⟩:=oS (P:=P) (w:=w) m_ kX (μ:=μ) (mx:=none) (mx':=none) trivial hR false
      refine .same ah (v':=.string (bs.extract l ag)) ?_ ⟨_,rfl,OY _ _ _ (by omega)⟩
      simp[Instr.sliceAt,Instr.slice,b7 hu,bq]
    · cases h
 ·
  rename_i e hu
  cases ad
  split at h
  · rename_i sz r hs hR
    cases h
    obtain⟨l,ag,m⟩:=r
    obtain⟨bq,a9,ee,ht,_⟩:=oS (P:=P) (w:=w) m_ kX jq hR true
    have:m=0/\l=0/\ag=0:=by omega
    obtain⟨rfl,rfl,rfl⟩:=this
    exact .same ah (v':=.slice none 0 0) (by simp[Instr.sliceAt,Instr.slice,b7 hu,bq,run_sizeOf hs]) rfl
  · cases h
 ·
  rename_i e b off len cap hu
  obtain⟨i,nX,ai⟩:=ad
  cases ai
  split at h
  · rename_i sz l ag m hs hR
    cases h
    obtain⟨bq,a9,ee,ht,_⟩:=oS (P:=P) (w:=w) m_ kX jq hR true
    refine .same ah (v':=.slice (some ⟨i.bo,i.base+(if m=l then off else off+l*sz),none⟩) (ag-l) (m-l)) ?_ ⟨i,nX,rfl⟩
    by_cases e:m=l
    · simp[Instr.sliceAt,Instr.slice,b7 hu,bq,run_sizeOf hs,e]
    · simp[Instr.sliceAt,Instr.slice,b7 hu,bq,run_sizeOf hs,e,add_plain,Nat.add_assoc]
  · cases h
 ·
  rename_i e b off len g_ hu
  obtain⟨i,nX,c,rfl,rX,bX⟩:=ad
  split at h
  · rename_i sz hs
    split at h
    · rename_i O1
      subst O1
      cases mx with
      |none=>
       cases mx' with
       |some _=>exact jq.elim
       |none=>
        simp only at h
        split at h
        · rename_i l ag m hR
          have xJ:bounds len c lo hi none=some (l,ag,c):=Df hR rX
          obtain⟨bq,a9,ee,ht,_⟩:=oS (P:=P) (w:=w) m_ kX (μ:=μ) (mx:=none) (mx':=none) trivial xJ true
          obtain⟨_,aR,bW,eu,_⟩:=oS (P:=P) (w:=w) m_ kX (μ:=μ) (mx:=none) (mx':=none) trivial hR true
          have fr:(Instr.sliceAt t (.slice (some ⟨i.bo,i.base+off,none⟩) len c) oT fM none).run P w=.ok (.slice (some (if c=l then⟨i.bo,i.base+off,none⟩ else⟨i.bo,i.base+off+l*sz,none⟩)) (ag-l) (c-l)) w:=by
           by_cases e:c=l
           · subst e;simp[Instr.sliceAt,Instr.slice,b7 hu,bq,run_sizeOf hs]
           · simp[Instr.sliceAt,Instr.slice,b7 hu,bq,run_sizeOf hs,e,add_plain]
          split at h
          · rename_i HF
            subst HF
            cases h
            refine .same ah fr ⟨i,nX,c,?_,by omega,bX⟩
            by_cases e:c=0
            · simp[e]
            · simp[e]
          · rename_i HF
            split at h
            · rename_i cB
              cases h
              simp only[Nat.blt_eq] at cB
              refine .same ah fr ⟨i,nX,c-l,?_,by omega,?_⟩
              · rw[if_neg (by omega)];simp[Nat.add_assoc]
              · have:c*sz=l*sz+(c-l)*sz:=by rw[<-Nat.add_mul];congr 1;omega
                omega
            · rename_i cB
              cases h
              have Dg:¬l<len:=by simpa[Nat.blt_eq] using cB
              have az:ag-l=0:=by omega
              rw[az] at fr
              exact .same ah fr ⟨i,nX,rfl,_,c-l,rfl⟩
        · cases h
      |some tj=>
       simp only at h
       split at h
       · rename_i l ag m hR
         cases h
         obtain⟨_,aR,bW,eu,_⟩:=oS (P:=P) (w:=w) m_ kX jq hR true
         have xJ:bounds len c lo hi (some tj)=some (l,ag,m):=Df hR rX
         obtain⟨bq,a9,ee,ht,_⟩:=oS (P:=P) (w:=w) m_ kX jq xJ true
         refine .same ah (v':=.slice (some ⟨i.bo,i.base+(if m=l then off else off+l*sz),none⟩) (ag-l) (m-l)) ?_ ⟨i,nX,rfl⟩
         by_cases e:m=l
         · simp[Instr.sliceAt,Instr.slice,b7 hu,bq,run_sizeOf hs,e]
         · simp[Instr.sliceAt,Instr.slice,b7 hu,bq,run_sizeOf hs,e,add_plain,Nat.add_assoc]
       · cases h
    · cases h
  · cases h
 ·
  rename_i e b off len hu
  obtain⟨i,nX,rfl,a,c,rfl⟩:=ad
  split at h
  · rename_i sz r hs hR
    cases h
    obtain⟨l,ag,m⟩:=r
    obtain⟨_,aR,bW,eu,iD⟩:=oS (P:=P) (w:=w) m_ kX jq hR true
    have:m=0/\l=0/\ag=0:=by omega
    obtain⟨rfl,rfl,rfl⟩:=this
    have xJ:bounds 0 c lo hi mx=some (0,0,(if mx.isNone then c else 0)):=Df hR (Nat.zero_le _)
    obtain⟨bq,a9,ee,ht,_⟩:=oS (P:=P) (w:=w) m_ kX jq xJ true
    refine .same ah (v':=.slice (some a) 0 ((if mx.isNone then c else 0)-0)) ?_ ⟨i,nX,rfl,a,_,rfl⟩
    have bl:a.add (0*sz)=a:=by simp[Addr.add]
    simp[Instr.sliceAt,Instr.slice,b7 hu,bq,run_sizeOf hs,Addr.add]
  · cases h
 ·
  rename_i n e b off hu
  obtain⟨i,nX,rfl⟩:=ad
  split at h
  · rename_i sz l ag m hs hR
    cases h
    obtain⟨bq,a9,ee,ht,_⟩:=oS (P:=P) (w:=w) m_ kX jq hR false
    refine .same ah (v':=.slice (some ⟨i.bo,i.base+(if m=l then off else off+l*sz),none⟩) (ag-l) (m-l)) ?_ ⟨i,nX,rfl⟩
    by_cases e:m=l
    · simp[Instr.sliceAt,Instr.sureAddr,b7 hu,bq,run_sizeOf hs,e]
    · simp[Instr.sliceAt,Instr.sureAddr,b7 hu,bq,run_sizeOf hs,e,add_plain,Nat.add_assoc]
  · cases h
 ·
  rename_i arr b off hu
  obtain⟨i,nX,rfl⟩:=ad
  split at h
  · rename_i n e r1
    split at h
    · rename_i sz l ag m hs hR
      cases h
      obtain⟨bq,a9,ee,ht,_⟩:=oS (P:=P) (w:=w) m_ kX jq hR false
      refine .same ah (v':=.slice (some ⟨i.bo,i.base+(if m=l then off else off+l*sz),none⟩) (ag-l) (m-l)) ?_ ⟨i,nX,rfl⟩
      by_cases e:m=l
      · simp[Instr.sliceAt,Instr.slice,asAddr,b7 hu,b7 r1,bq,run_sizeOf hs,e]
      · simp[Instr.sliceAt,Instr.slice,asAddr,b7 hu,b7 r1,bq,run_sizeOf hs,e,add_plain,Nat.add_assoc]
    · cases h
  · cases h
 · cases h
theorem r2{t:TypeId}{off:Nat}{cs:List J}{l:List Value}(aD:cy μ cs l){v:J}(h:l7 P t cs off=some v):∃u,(part t ⟨l⟩ off).run P w=.ok u w/\bn μ v u:=by
 unfold l7 at h
 split at h
 · rename_i n bl aM
   split at h
   · rename_i r al
     cases h
     rw[m9] at al
     obtain⟨ab,rfl⟩:=th _ _ _ al
     refine⟨.agg ⟨(l.drop off).take n⟩,?_,⟨_,rfl,?_⟩⟩
     · simp[part,vp bl,run_sizeOf aM,List.extract_eq_take_drop]
     · refine cy.xy (by have:=aD.length;simp[this]) λj a aV=>?_
       rw[List.getElem?_take] at aV⊢
       split at aV
       · rename_i Dh
         rw[if_pos Dh]
         rw[List.getElem?_drop] at aV⊢
         exact aD.get aV
       · cases aV
   · cases h
 · rename_i _ bl
   rw[qO] at h
   obtain⟨u,hu,al⟩:=aD.get h
   refine⟨u,?_,al⟩
   simp[part,vp bl,hu]
 · cases h
theorem O2(ah:bD μ H w){t:TypeId}{dm:Array Field}{fd:Field}{f:Nat}(hu:P.underlying t=some (.struct dm))(hf:dm[f]? =some fd){cs:List J}{bF:Value}(ad:bn μ (.agg cs) bF){v:J}
  (h:l7 P fd.type cs fd.offset=some v):fS P μ H w (Instr.field t bF f) v H:=by
 obtain⟨l,rfl,aD⟩:=ad
 obtain⟨u,ab,ae⟩:=r2 (P:=P) (w:=w) aD h
 exact .same ah (v':=u) (by simp[Instr.field,b7 hu,hf,asAgg,ab]) ae
theorem O3(ah:bD μ H w){s:TypeId}{dm:Array Field}{fd:Field}{f n b off:Nat}(hu:P.underlying s=some (.struct dm))(hf:dm[f]? =some fd)(aM:dQ P fd.type=some n)(Di:n≠0){bF:Value}
  (ad:bn μ (.ptr b off) bF):fS P μ H w (Instr.fieldAt s bF f) (.ptr b (off+fd.offset)) H:=by
 obtain⟨i,hi,rfl⟩:=ad
 refine .same ah (v':=.pointer (some ⟨i.bo,i.base+(off+fd.offset),none⟩)) ?_ ⟨i,hi,rfl⟩
 simp[Instr.fieldAt,b7 hu,hf,Instr.sureAddr,fieldPlace,run_sizeOf aM,Di,add_plain,Nat.add_assoc]
theorem O4(ah:bD μ H w){t e:TypeId}{b off n k sz:Nat}{c:cE}{bN:IntKind}(hu:P.underlying t=some (.slice e))(hs:dQ P e=some sz){bF:Value}(ad:bn μ (.slice b off n c) bF)(ax:k<n):
  fS P μ H w (Instr.indexAt t bF (.int bN (k:Int))) (.ptr b (off+k*sz)) H:=by
 obtain⟨i,hi,ai⟩:=ad
 have mF:∃cap,bF=.slice (some ⟨i.bo,i.base+off,none⟩) n cap:=by
  cases c with
  |exact c=>exact⟨c,ai⟩
  |a5 g_=>obtain⟨c,h,_⟩:=ai;exact⟨c,h⟩
  |dead=>obtain⟨az,_⟩:=ai;omega
 obtain⟨cap,rfl⟩:=mF
 refine .same ah (v':=.pointer (some ⟨i.bo,i.base+(off+k*sz),none⟩)) ?_ ⟨i,hi,rfl⟩
 simp only[Instr.indexAt,asIntOf,Sem.run_bind,Sem.run_pure,Result.andThen_ok,b7 hu]
 rw[if_pos ⟨by omega,by omega⟩]
 simp[run_sizeOf hs,add_plain,Nat.add_assoc]
theorem O5(ah:bD μ H w){t e:TypeId}{b off n k sz:Nat}{bN:IntKind}(hu:P.underlying t=some (.array n e))(hs:dQ P e=some sz){bF:Value}(ad:bn μ (.ptr b off) bF)(ax:k<n):
  fS P μ H w (Instr.indexAt t bF (.int bN (k:Int))) (.ptr b (off+k*sz)) H:=by
 obtain⟨i,hi,rfl⟩:=ad
 refine .same ah (v':=.pointer (some ⟨i.bo,i.base+(off+k*sz),none⟩)) ?_ ⟨i,hi,rfl⟩
 simp only[Instr.indexAt,asIntOf,Sem.run_bind,Sem.run_pure,Result.andThen_ok,b7 hu,Instr.sureAddr]
 rw[if_pos ⟨by omega,by omega⟩]
 simp[run_sizeOf hs,add_plain,Nat.add_assoc]
theorem O6(ah:bD μ H w){t e:TypeId}{n k sz:Nat}{bN:IntKind}{cs:List J}(hu:P.underlying t=some (.array n e))(hs:dQ P e=some sz){bF:Value}(ad:bn μ (.agg cs) bF)(ax:k<n){v:J}
  (h:l7 P e cs (k*sz)=some v):fS P μ H w (Instr.index t bF (.int bN (k:Int))) v H:=by
 obtain⟨l,rfl,aD⟩:=ad
 obtain⟨u,ab,ae⟩:=r2 (P:=P) (w:=w) aD h
 refine .same ah (v':=u) ?_ ae
 simp only[Instr.index,asIntOf,Sem.run_bind,Sem.run_pure,Result.andThen_ok,b7 hu]
 rw[if_pos ⟨by omega,by omega⟩]
 simp[run_sizeOf hs,ab]
theorem O7(ah:bD μ H w){t:TypeId}{k:Nat}{bN:IntKind}{s:List UInt8}(hu:P.underlying t=some .string){bF:Value}(ad:bn μ (.str s) bF){c:UInt8}(h:nth k s=some c):
  fS P μ H w (Instr.index t bF (.int bN (k:Int))) (.int .u8 (Int.ofNat c.toNat)) H:=by
 obtain⟨bs,rfl,rfl⟩:=ad
 rw[qO] at h
 refine .same ah (v':=.int .u8 (c.toNat:Int)) ?_ rfl
 have ax:k<bs.data.size:=by
  rcases Nat.lt_or_ge k bs.data.size with an|an
  · exact an
  · rw[List.getElem?_eq_none (by simpa using an)] at h;cases h
 have au:bs[k]? =some c:=by
  rw[Array.getElem?_toList] at h
  rw[<-h]
  show(if h:k<bs.size then some bs[k] else none)=_
  have gn:k<bs.size:=ax
  rw[dif_pos gn,Array.getElem?_eq_getElem ax];rfl
 simp only[Instr.index,asIntOf,Sem.run_bind,Sem.run_pure,Result.andThen_ok,b7 hu]
 rw[if_pos (by omega)]
 simp[au]
end
end aC
namespace aC
open Go
section
variable {P:Program} {μ:bG} {H:aa} {w:World}
theorem Aw(μ:bG):∀l:List UInt8,cy μ (cK l) (l.map λb=>.int .u8 b.toNat)
 |[]=>rfl
 |b::l=>⟨_,_,rfl,rfl,Aw μ l⟩
theorem O8(t:ByteArray):(t.extract 0 t.size)=t:=by
 obtain⟨d⟩:=t
 simp[ByteArray.ext_iff,ByteArray.data_extract,ByteArray.size]
theorem Ax(ah:bD μ H w){size n:Nat}{x:J}{bF:Value}(ad:bn μ x bF){cs:List J}(h:ha H size x=some (n,cs)):
  (Builtin.lenOf bF).run P w=.ok n w/\(∃us:List Value,(Builtin.firstCells size n bF).run P w=.ok ⟨us⟩ w/\cy μ cs us):=by
 cases x<;>simp only[ha] at h<;>try cases h
 · split at h<;>try cases h
   obtain⟨bs,rfl,rfl⟩:=ad
   refine⟨by rw[show bs.data.toList.length=bs.size from Array.length_toList];rfl,_,?_,Aw μ _⟩
   have bX:bs.data.toList.length=bs.size:=Array.length_toList
   simp only[Builtin.firstCells,Sem.run_pure,bX,O8]
   congr 1
   apply Array.ext'
   simp
 · cases ad
   exact⟨rfl,[],rfl,rfl⟩
 · rename_i b off len cap
   obtain⟨i,hi,ai⟩:=ad
   cases cap with
   |dead=>
    obtain⟨rfl,a,c,rfl⟩:=ai
    simp at h
    obtain⟨rfl,rfl⟩:=h
    exact⟨rfl,[],by simp[Builtin.firstCells,_root_.Go.loadCells,loadCellsFrom],rfl⟩
   |exact c=>
    cases ai
    simp only at h
    split at h
    · rename_i b9 aD
      cases h
      obtain⟨us,ab,ae⟩:=rT (P:=P) ah hi aD
      exact⟨rfl,us,by simp only[Builtin.firstCells];exact ab,ae⟩
    · cases h
   |a5 g_=>
    obtain⟨c,rfl,_⟩:=ai
    simp only at h
    split at h
    · rename_i b9 aD
      cases h
      obtain⟨us,ab,ae⟩:=rT (P:=P) ah hi aD
      exact⟨rfl,us,by simp only[Builtin.firstCells];exact ab,ae⟩
    · cases h
theorem O9{z:Value}(n:Nat){nV:List J}(bj:cy μ nV z.cells.toList):cy μ (gv n nV) (Builtin.zeroCells z.cells n).toList:=by
 have:=xE bj rfl n
 have aD:=bj.length
 have aB:z.cells.toList.length=z.cells.size:=by simp
 rw[aD,aB] at this
 exact this
theorem O_(need old:Nat)(h:old<need):Builtin.nextslicecap need old<=4*need+2048:=by
 unfold Builtin.nextslicecap
 split
 · omega
 · split
   · omega
   · have au:∀rounds c,c<=2*need+768->(∀k,k<=rounds->True)->Builtin.growBy need rounds c<=4*need+2048:=by
       intro rounds
       induction rounds with
       |zero=>intro c ai _;simp only[Builtin.growBy];omega
       |succ r bt=>
        intro c ai _
        simp only[Builtin.growBy]
        split
        · omega
        · rename_i cB
          exact bt _ (by omega) (λ_ _=>trivial)
     exact au 4 old (by omega) (λ_ _=>trivial)
theorem bD.Pa{w':World}(h:bD μ H w){b:Nat}{o o':cJ}{i:h3}(ag:H.get b=some o)(iU:o.pI=false)(hi:μ b=some i)
  (hs:w'.heap.size=w.heap.size)(a7:∀r,r≠i.bo->w'.heap[r]? =w.heap[r]?)(xA:w'.os=w.os)(tg:w'.output=w.output)(C8:w'.tape=w.tape)(base sz:Nat)
  (al:pH (gX μ H.n ⟨i.bo,base,sz⟩) o' ⟨i.bo,base,sz⟩ w')(hdr:w.drawn<=w'.drawn:=by first|exact Nat.le_refl _|assumption):
  bD (gX μ H.n ⟨i.bo,base,sz⟩) ((H.set b none).push o') w'/\cw μ H w (gX μ H.n ⟨i.bo,base,sz⟩) ((H.set b none).push o') w':=by
 have hle:=h.oN ⟨i.bo,base,sz⟩
 have Pb:b<H.n:=(h.lt b i hi).1
 have vo:H.get b≠none:=by rw[ag];simp
 have js:∀c,((H.set b none).push o').get c=if c=H.n then some o' else if c=b then none else H.get c:=λc=>by
  rw[aa.e6,aa.bV];rfl
 have qN:∀c,c<H.n->((H.set b none).push o').get c≠none->c≠b/\H.get c≠none:=λc ai aM=>by
  rw[js,if_neg (by omega)] at aM
  by_cases e:c=b
  · rw[if_pos e] at aM;exact absurd rfl aM
  · rw[if_neg e] at aM;exact⟨e,aM⟩
 constructor
 · refine⟨λc rP j ai aV=>?_,λc d j k ai aj aV ax e=>?_,λc j aV=>?_,λc ai=>?_⟩
   · rw[js] at ai
     by_cases e:c=H.n
     · rw[if_pos e] at ai;subst e;cases ai;rw[gY] at aV;cases aV;exact al
     · rw[if_neg e] at ai;rw[h4 _ _ e] at aV
       by_cases aG:c=b
       · rw[if_pos aG] at ai;cases ai
       · rw[if_neg aG] at ai
         exact(h.rel c rP j ai aV).mono hle (a7 _ λed=>aG (h.inj c b j i (by rw[ai];simp) ⟨o,ag,iU⟩ aV hi ed))
   · have side:∀c j,c≠H.n->((H.set b none).push o').get c≠none->gX μ H.n ⟨i.bo,base,sz⟩ c=some j->j.bo≠i.bo:=λc j HG ai aV e=>by
       rw[h4 _ _ HG] at aV
       obtain⟨aY,aR⟩:=qN c (h.lt c j aV).1 ai
       exact aY (h.inj c b j i aR ⟨o,ag,iU⟩ aV hi e)
     by_cases aF:c=H.n
     · by_cases aG:d=H.n
       · rw[aF,aG]
       · subst aF;rw[gY] at aV;cases aV
         exact absurd e.symm (side d k aG (by obtain⟨x,ad,_⟩:=aj;rw[ad];simp) ax)
     · by_cases aG:d=H.n
       · subst aG;rw[gY] at ax;cases ax
         exact absurd e (side c j aF ai aV)
       · rw[h4 _ _ aF] at aV;rw[h4 _ _ aG] at ax
         exact h.inj c d j k (qN c (h.lt c j aV).1 ai).2 (by
          obtain⟨x,ad,pK⟩:=aj
          rw[js,if_neg aG] at ad
          split at ad
          · cases ad
          · exact⟨x,ad,pK⟩) aV ax e
   · by_cases e:c=H.n
     · subst e;rw[gY] at aV;cases aV
       have:=(h.lt b i hi).2
       exact⟨by simp,by rw[hs];exact this⟩
     · rw[h4 _ _ e] at aV
       have:=h.lt c j aV
       exact⟨by simp;omega,by rw[hs];exact this.2⟩
   · simp at ai
     rw[js,if_neg (by omega),if_neg (by omega)];exact h.bound c (by omega)
 · refine⟨hle,by omega,by simp,λc ai aM=>(qN c ai aM).2,λc ai hm=>(by rw[js,if_neg (by omega),if_neg];intro e;subst e;rw[hi] at hm;cases hm),λr _ aM=>a7 r λe=>aM b i vo hi e.symm,λc j ab ae=>?_,λc rP j ai rQ aV=>?_,xA,tg,C8,hdr⟩
   · by_cases e:c=H.n
     · subst e;rw[gY] at ae;cases ae
       exact⟨Nat.le_refl _,.inr ⟨b,o,i,ag,iU,hi,rfl⟩⟩
     · rw[h4 _ _ e,ab] at ae;cases ae
   · have eb:c≠b:=by intro e;subst e;rw[ag] at ai;cases ai;rw[iU] at rQ;cases rQ
     have HG:=(h.lt c j aV).1
     refine⟨by rw[js,if_neg (by omega),if_neg eb];exact ai,a7 _ λe=>eb (h.inj c b j i (by rw[ai];simp) ⟨o,ag,iU⟩ aV hi e)⟩
theorem bD.kill(h:bD μ H w){b:Nat}{o:cJ}{i:h3}(ag:H.get b=some o)(iU:o.pI=false)(hi:μ b=some i):
  bD μ (H.set b none) w/\cw μ H w μ (H.set b none) w:=by
 have qN:∀c,(H.set b none).get c≠none->H.get c≠none:=λc aM=>by
  rw[aa.bV] at aM
  by_cases e:c=b
  · rw[if_pos e] at aM;exact absurd rfl aM
  · rw[if_neg e] at aM;exact aM
 constructor
 · refine⟨λc rP j ai aV=>?_,λc d j k ai aj=>h.inj c d j k (qN c ai) (by
     obtain⟨x,ad,pK⟩:=aj
     rw[aa.bV] at ad
     split at ad
     · cases ad
     · exact⟨x,ad,pK⟩),h.lt,λc ai=>?_⟩
   · rw[aa.bV] at ai
     by_cases e:c=b
     · rw[if_pos e] at ai;cases ai
     · rw[if_neg e] at ai;exact h.rel c rP j ai aV
   · rw[aa.bV]
     split
     · rfl
     · exact h.bound c ai
 · refine⟨fL.refl μ,Nat.le_refl _,Nat.le_refl _,λc _ ai=>qN c ai,λc _ hm=>(by rw[aa.bV,if_neg];intro e;subst e;rw[hi] at hm;cases hm),λ_ _ _=>rfl,λc j ab ae=>(by rw[ab] at ae;cases ae),λc rP j ai rQ aV=>⟨?_,rfl⟩,rfl,rfl,rfl,Nat.le_refl _⟩
   have eb:c≠b:=by intro e;subst e;rw[ag] at ai;cases ai;rw[iU] at rQ;cases rQ
   rw[aa.bV,if_neg eb];exact ai
theorem bD.drew(h:bD μ H w):bD μ H w.drew:=h.of_heap rfl
theorem cw.drew:cw μ H w μ H w.drew:=cw.of_heap rfl rfl rfl rfl
theorem Pc{need bytes:Nat}(h:my need bytes=true):(4*need+2048)*bytes<=281474976710656/\need<=281474976710656:=by
 simp only[my,Nat.ble_eq] at h
 have ab:(4*need+2048)*bytes<=(4*need+2048)*(bytes+1):=Nat.mul_le_mul_left _ (by omega)
 have ae:(4*need+2048)*1<=(4*need+2048)*(bytes+1):=Nat.mul_le_mul_left _ (by omega)
 refine⟨Nat.le_trans ab h,?_⟩
 have aB:=Nat.le_trans ae h
 rw[Nat.mul_one] at aB
 generalize 281474976710656=q at aB⊢
 omega
theorem Pd{sT e:TypeId}{xT:Option TypeId}{i:TypeInfo}{z:Value}{argTypes:Array TypeId}{ty:TypeId}(az:argTypes[0]? =some sT)(ab:argTypes[1]? =xT)(hu:P.underlying sT=some (.slice e))(ad:pA P xT=true)(hi:P.info? e=some i)
  (bj:∀w:World,(zeroValue e).run P w=.ok z w){base:Option Addr}{sLen sCap n:Nat}{bF:Value}(aD:(Builtin.lenOf bF).run P w=.ok n w){us old:List Value}(hold:(Builtin.firstCells i.size sLen (.slice base sLen sCap)).run P w.drew=.ok ⟨old⟩ w.drew)
  (r3:(Builtin.firstCells i.size n bF).run P w.drew=.ok ⟨us⟩ w.drew)(cB:sCap<sLen+n)(tk:my (sLen+n) i.bytes=true):
  ∃mG,sLen+n<=mG/\(Builtin.append_ argTypes ty #[.slice base sLen sCap,bF]).run P w=
   .ok (.slice (some ⟨w.heap.size,0,none⟩) (sLen+n) mG) (w.drew.alloc (.cells (⟨old⟩++⟨us⟩++Builtin.zeroCells z.cells (mG-(sLen+n))) e)):=by
 obtain⟨c9,jr⟩:=Pc tk
 have Pe:=O_ (sLen+n) sCap cB
 have vq:¬(Builtin.nextslicecap (sLen+n) sCap*i.bytes>2^48):=by
  have ab:Builtin.nextslicecap (sLen+n) sCap*i.bytes<=(4*(sLen+n)+2048)*i.bytes:=Nat.mul_le_mul_right _ Pe
  have ae:(2:Nat)^48=281474976710656:=by rfl
  rw[ae]
  exact Nat.not_lt.2 (Nat.le_trans ab c9)
 have Pf:IntKind.max .i64=9223372036854775807:=rfl
 have qQ:¬(((sLen+n:Nat):Int)>IntKind.i64.max):=by rw[Pf];omega
 have HH:¬(sLen+n<=sCap):=by omega
 have bX:∀w:World,(_root_.Go.sizeOf e).run P w=.ok i.size w:=λw=>by simp[_root_.Go.sizeOf,run_typeInfo hi]
 have Ay:(Question.appendCap (sLen+n) sCap e).forced=false:=rfl
 have Az:∀w:World,(typeInfo e).run P w=.ok i w:=λw=>run_typeInfo hi
 have AA:∀(c:Nat) (cs:Array Value),(_root_.Go.newRow e cs).run P w.drew=.ok ⟨w.heap.size,0,none⟩ (w.drew.alloc (.cells cs e)):=λc cs=>rfl
 refine⟨(Question.appendCap (sLen+n) sCap e).cut (w.tape w.drawn (Question.appendCap (sLen+n) sCap e)),by simp[Question.cut],?_⟩
 cases xT with
 |none=>
  simp only[Builtin.append_,az,ab,List.getElem?_toArray,List.getElem?_cons_zero,List.getElem?_cons_succ,Sem.run_bind,b7 hu,Result.andThen_ok,bX,Sem.run_pure,aD,Bool.false_eq_true,if_false,if_neg HH,Az,qQ,false_and,if_neg vq,
   run_choose,Ay,run_askRoom,World.drew_eq,hold,r3,Bool.not_false,if_true,bj,AA 0]
 |some gB=>
  simp only[pA] at ad
  cases aj:P.underlying gB with
  |none=>rw[aj] at ad;cases ad
  |some d=>
   rw[aj] at ad
   cases d<;>first
   |(cases ad;done)
   |simp only[Builtin.append_,az,ab,List.getElem?_toArray,List.getElem?_cons_zero,List.getElem?_cons_succ,Sem.run_bind,b7 hu,b7 aj,Result.andThen_ok,bX,Sem.run_pure,aD,Bool.false_eq_true,if_false,if_neg HH,Az,qQ,false_and,if_neg vq,
    run_choose,Ay,run_askRoom,World.drew_eq,hold,r3,Bool.not_false,if_true,bj,AA 0]
theorem xK{sT e:TypeId}{xT:Option TypeId}{i:TypeInfo}{argTypes:Array TypeId}{ty:TypeId}(az:argTypes[0]? =some sT)(ab:argTypes[1]? =xT)(hu:P.underlying sT=some (.slice e))(ad:pA P xT=true)(hi:P.info? e=some i)
  {base:Option Addr}{sLen sCap n:Nat}{bF:Value}(aD:(Builtin.lenOf bF).run P w=.ok n w){us:List Value}
  (r3:(Builtin.firstCells i.size n bF).run P w=.ok ⟨us⟩ w)(hle:sLen+n<=sCap):
  (Builtin.append_ argTypes ty #[.slice base sLen sCap,bF]).run P w=match base with
   |some a=>((_root_.Go.storeCells (a.add (sLen*i.size)) us).run P w).andThen λ_ w'=>.ok (.slice base (sLen+n) sCap) w'
   |none=>.ok (.slice base (sLen+n) sCap) w:=by
 have bX:∀w:World,(_root_.Go.sizeOf e).run P w=.ok i.size w:=λw=>by simp[_root_.Go.sizeOf,run_typeInfo hi]
 cases xT with
 |none=>
  cases base<;>simp only[Builtin.append_,az,ab,List.getElem?_toArray,List.getElem?_cons_zero,List.getElem?_cons_succ,Sem.run_bind,b7 hu,Result.andThen_ok,bX,Sem.run_pure,aD,Bool.false_eq_true,if_false,if_pos hle,Bool.not_false,if_true,r3]
 |some gB=>
  simp only[pA] at ad
  cases aj:P.underlying gB with
  |none=>rw[aj] at ad;cases ad
  |some d=>
   rw[aj] at ad
   cases d<;>first
   |(cases ad;done)
   |cases base<;>simp only[Builtin.append_,az,ab,List.getElem?_toArray,List.getElem?_cons_zero,List.getElem?_cons_succ,Sem.run_bind,b7 hu,b7 aj,Result.andThen_ok,bX,Sem.run_pure,aD,Bool.false_eq_true,if_false,if_pos hle,Bool.not_false,if_true,r3]
theorem Pg{l:List J}(h:l.all J.cu=true):∀a∈l,a.cu=true:=λa bl=>List.all_eq_true.1 h a bl
theorem Dj(ah:bD μ H w){sT e:TypeId}{xT:Option TypeId}{i:TypeInfo}{z:J}{argTypes:Array TypeId}{ty:TypeId}(az:argTypes[0]? =some sT)(ab:argTypes[1]? =xT)(hu:P.underlying sT=some (.slice e))(ad:pA P xT=true)
  (hi:P.info? e=some i)(bj:fq P e=some z){base:Option Addr}{sLen sCap n:Nat}{x:J}{bF:Value}(HI:bn μ x bF){cs:List J}(hE:ha H i.size x=some (n,cs)){old:List J}
  (hold:∃us:List Value,(Builtin.firstCells i.size sLen (.slice base sLen sCap)).run P w.drew=.ok ⟨us⟩ w.drew/\cy μ old us)(xL:old.length=sLen*i.size)(ir:cs.length=n*i.size)(cB:sCap<sLen+n){v:J}{H1 bf:aa}(h7:bD μ H1 w)(Ph:cw μ H w μ H1 w)
  {fz:Nat}(au:lK H1 e i.bytes i.size (sLen+n) z (old++cs) fz=some (v,bf)):fS P μ H w (Builtin.append_ argTypes ty #[.slice base sLen sCap,bF]) v bf:=by
 obtain⟨gp,HJ,rfl,ag⟩:=mE (P:=P) (w:=w) bj
 have Pj:∀w:World,(zeroValue e).run P w=.ok gp w:=λw=>by
  unfold fq at bj
  simp only[hi] at bj
  cases HK:i.zero with
  |none=>rw[HK] at bj;cases bj
  |some Pk=>
   have aY:∀w:World,(zeroValue e).run P w=.ok Pk w:=λw=>by simp[zeroValue,run_typeInfo hi,HK]
   rw[aY] at HJ
   cases HJ
   exact aY w
 obtain⟨aD,us,mH,ma⟩:=Ax (P:=P) ah HI hE
 obtain⟨_,r4,Pl,HL⟩:=Ax (P:=P) ah.drew HI hE
 obtain⟨os,xA,HM⟩:=hold
 unfold lK at au
 split at au
 · rename_i ai
   simp only[Bool.and_eq_true] at ai
   obtain⟨⟨tk,pN⟩,gm⟩:=ai
   cases au
   obtain⟨mG,oU,vr⟩:=Pd (P:=P) (w:=w) (ty:=ty) az ab hu ad hi Pj aD xA Pl cB tk
   have jQ:=(kU μ gp).cells ag
   have Pm:=Nat.eq_of_beq_eq_true pN
   have Pn:gp.cells.size=i.size:=by have:=jQ.length;rw[Pm] at this;simpa using this.symm
   have Po:cy μ (old++cs) (os++r4):=HM.append HL
   have Pp:os.length=sLen*i.size:=by rw[<-HM.length,xL]
   have Pq:r4.length=n*i.size:=by rw[<-HL.length,ir]
   have hmul:(sLen+n)*i.size=sLen*i.size+n*i.size:=Nat.add_mul _ _ _
   have HN:mG*i.size=(sLen+n)*i.size+(mG-(sLen+n))*i.size:=by rw[<-Nat.add_mul,Nat.add_sub_of_le oU]
   have Pr:0+mG*i.size=((⟨os⟩:Array Value)++⟨r4⟩++Builtin.zeroCells gp.cells (mG-(sLen+n))).size:=by
    have aY:(⟨os⟩:Array Value).size=sLen*i.size:=Pp
    have aR:(⟨r4⟩:Array Value).size=n*i.size:=Pq
    have bW:(Builtin.zeroCells gp.cells (mG-(sLen+n))).size=(mG-(sLen+n))*i.size:=by
     unfold Builtin.zeroCells;rw[Array.size_map,Array.size_range,Pn]
    rw[Array.size_append,Array.size_append,aY,aR,bW,HN,hmul]
    omega
   have hle:=h7.drew.oN ⟨w.heap.size,0,mG*i.size⟩
   obtain⟨bq,a9⟩:=h7.drew.alloc (.cells (old++cs) e .a5 0 fz) (.cells (⟨os⟩++⟨r4⟩++Builtin.zeroCells gp.cells (mG-(sLen+n))) e) (mG*i.size)
    ⟨_,0,0,World.heap_alloc_new _ _,λj a aV=>by
      obtain⟨u,rS,al⟩:=Po.get aV
      refine⟨u,?_,al.mono hle⟩
      have Dk:j<(os++r4).length:=by
       rcases Nat.lt_or_ge j (os++r4).length with h|h
       · exact h
       · rw[List.getElem?_eq_none h] at rS;cases rS
      rw[Nat.zero_add,Array.getElem?_append_left (by simpa using Dk)]
      simpa using rS,Pr,by
      refine⟨?_,λj _ _ h=>by omega⟩
      simp[xL,ir];omega⟩
   refine⟨_,_,_,vr,⟨_,gY _ _ _,mG,rfl,oU,by simp⟩,bq,?_⟩
   exact Ph.trans ah h7 (cw.drew.trans h7 h7.drew a9)
 · cases au
end
end aC
