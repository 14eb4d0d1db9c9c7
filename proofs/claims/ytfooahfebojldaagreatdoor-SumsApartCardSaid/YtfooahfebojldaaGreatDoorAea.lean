/-
  THE ABSTRACT EVALUATOR (the evaluator's definitions; values and memory): a deterministic semantics of loaded code, and the proof that its runs are runs of the program in the model, whatever the tape draws. No condition.
-/
import GoSem.Step
import Derived.Calls
import Derived.Laws.Sem
import Derived.Laws.World
set_option linter.unusedVariables false
set_option linter.unusedSimpArgs false
namespace aw
open Go
inductive cf where
 |exact(n:Nat)
 |aN (fA:Nat)
 |dead
inductive I where
 |bad
 |bool (b:Bool)
 |int (k:IntKind) (n:Int)
 |str (s:List UInt8)
 |bd
 |ptr (b off:Nat)
 |a0
 |slice (b off len:Nat) (cap:cf)
 |gm
 |map (r:Nat)
 |eN
 |fn (f:Nat) (first aF:List I)
 |bQ (l:Nat)
 |dW
 |iface (t:Nat) (v:I)
 |agg (cs:List I)
 |aK (vs:List I)
 deriving Inhabited
def I.bC:I->Bool
 |.bad|.agg _|.aK _=>false
 |_=>true
def I.cells:I->List I
 |.agg cs=>cs
 |v=>[v]
inductive gZ where
 |here|l (p:gZ)|r (p:gZ)
inductive aL where
 |leaf
 |node (l:aL) (v:I) (r:aL)
def uV:Nat->Nat->gZ
 |0,_=>.here
 |f+1,n=>match n with
  |0=>.here
  |m+1=>match Nat.mod m 2 with
   |0=>.l (uV f (Nat.div m 2))
   |_=>.r (uV f (Nat.div m 2))
def fV(n:Nat):gZ:=uV n n
def aL.get:gZ->aL->I
 |.here,.node _ v _=>v
 |.l p,.node l _ _=>get p l
 |.r p,.node _ _ r=>get p r
 |_,.leaf=>.bad
def aL.Ao(l:aL)(v:I)(r:aL):aL:=match l with
 |.leaf=>.node .leaf v r
 |.node a b c=>.node (.node a b c) v r
def aL.Ap(l:aL)(v:I)(r:aL):aL:=match r with
 |.leaf=>.node l v .leaf
 |.node a b c=>.node l v (.node a b c)
def aL.set:gZ->I->aL->aL
 |.here,x,.node l _ r=>.node l x r
 |.here,x,.leaf=>.node .leaf x .leaf
 |.l p,x,.node l v r=>aL.Ao (set p x l) v r
 |.l p,x,.leaf=>aL.Ao (set p x .leaf) .bad .leaf
 |.r p,x,.node l v r=>aL.Ap l v (set p x r)
 |.r p,x,.leaf=>aL.Ap .leaf .bad (set p x .leaf)
inductive fB where
 |own|aN|ro|fz
 deriving DecidableEq
structure e1 where
 key:I
 val:I
 born:Nat
inductive bA where
 |call (f:Nat) (args:List I)
 |collected (r:Nat)
inductive ca where
 |cells (cs:List I) (el:Nat) (k:fB) (a9 ae:Nat)
 |map (es:List e1) (clock:Nat)
 |nw (s:List UInt8) (pos:Nat)
 |mapIter (m:Option Nat) (since:Nat) (seen:List Nat) (last:Nat)
 |loop (st:LoopState) (fa:Option Code) (fn:Nat) (k5:aL) (params:List Nat) (assign body:Code) (defers:Nat)
 |defrd (calls:Option (List bA))
 |raw (o:Obj)
inductive eb where
 |leaf
 |node (l:eb) (v:Option ca) (r:eb)
def eb.get:eb->Nat->Option ca
 |.leaf,_=>none
 |.node l v r,n=>match n with
  |0=>v
  |m+1=>match Nat.mod m 2 with
   |0=>get l (Nat.div m 2)
   |_=>get r (Nat.div m 2)
def eb.jy:Nat->eb->Nat->Option ca->eb
 |0,t,_,_=>t
 |f+1,.leaf,n,x=>match n with
  |0=>.node .leaf x .leaf
  |m+1=>match Nat.mod m 2 with
   |0=>.node (jy f .leaf (Nat.div m 2) x) none .leaf
   |_=>.node .leaf none (jy f .leaf (Nat.div m 2) x)
 |f+1,.node l v r,n,x=>match n with
  |0=>.node l x r
  |m+1=>match Nat.mod m 2 with
   |0=>.node (jy f l (Nat.div m 2) x) v r
   |_=>.node l v (jy f r (Nat.div m 2) x)
structure J where
 t:eb
 n:Nat
def J.get(h:J)(b:Nat):Option ca:=h.t.get b
def J.set(h:J)(b:Nat)(o:Option ca):J:=⟨eb.jy (b+1) h.t b o,h.n⟩
def J.push(h:J)(o:ca):J:=⟨eb.jy (h.n+1) h.t h.n (some o),h.n+1⟩
inductive gg where
 |val (v:I) (h:J)
 |bK (v:I) (h:J)
 |call (f:Nat) (args:List I) (h:J)
 |bQ (l:Nat) (args:List I) (h:J)
 |iI (d:bA)
 |q8
 |fail (hI:String)
inductive av where
 |ret (v:I) (h:J)
 |bK (v:I) (h:J)
 |fail (hI:String)
mutual
def mD:Value->I
 |.bool b=>.bool b
 |.int k n=>.int k n
 |.string s=>.str s.data.toList
 |.pointer none=>.bd
 |.slice none 0 0=>.a0
 |.map none=>.gm
 |.nilFunc=>.eN
 |.nilIface=>.dW
 |.agg ⟨cs⟩=>.agg (xy cs)
 |.tuple ⟨vs⟩=>.aK (xy vs)
 |_=>.bad
def xy:List Value->List I
 |[]=>[]
 |v::vs=>mD v::xy vs
end
def nth{α:Type}:Nat->List α->Option α
 |_,[]=>none
 |0,a::_=>some a
 |n+1,_::l=>nth n l
def takeN:Nat->List I->Option (List I)
 |0,_=>some []
 |_+1,[]=>none
 |n+1,a::l=>match takeN n l with
  |some r=>some (a::r)
  |none=>none
def g0{α:Type}:Nat->List α->List α
 |0,l=>l
 |_+1,[]=>[]
 |n+1,_::l=>g0 n l
def bR:List UInt8->List UInt8->Bool
 |[],[]=>true
 |a::x,b::y=>match Nat.beq a.toNat b.toNat with
  |true=>bR x y
  |false=>false
 |_,_=>false
def eA:List UInt8->List UInt8->Bool
 |_,[]=>false
 |[],_::_=>true
 |a::x,b::y=>match Nat.beq a.toNat b.toNat with
  |true=>eA x y
  |false=>Nat.blt a.toNat b.toNat
def et(x y:Int):Bool:=decide (x<y)
def fh(x y:Int):Bool:=decide (x<=y)
def cU(x y:Int):Bool:=x==y
def loadCells(h:J)(b off n:Nat):Option (List I):=
 match h.get b with
 |some (.cells cs _ _ _ _)=>takeN n (g0 off cs)
 |_=>none
def ay(h:J)(b off:Nat):Option I:=
 match h.get b with
 |some (.cells cs _ _ _ _)=>nth off cs
 |_=>none
def im(k:fB)(a9 ae off n:Nat):Bool:=
 match k with
 |.ro|.fz=>false
 |_=>Nat.ble ae a9||Nat.ble (off+n) a9||Nat.ble ae off
def eB:Nat->List I->List I->Option (List I)
 |0,[],cs=>some cs
 |0,_::_,[]=>none
 |0,v::vs,_::cs=>match v.bC with
  |true=>match eB 0 vs cs with
   |some r=>some (v::r)
   |none=>none
  |false=>none
 |_+1,[],cs=>some cs
 |_+1,_::_,[]=>none
 |n+1,vs,c::cs=>match eB n vs cs with
  |some r=>some (c::r)
  |none=>none
def storeCells(h:J)(b off:Nat)(vs:List I):Option J:=
 match h.get b with
 |some (.cells cs el k a9 ae)=>
  match im k a9 ae off vs.length with
  |true=>match eB off vs cs with
   |some bH=>some (h.set b (some (.cells bH el k a9 ae)))
   |none=>none
  |false=>none
 |_=>none
def newRow(h:J)(el:Nat)(cs:List I):Option (Nat×J):=
 match cs.all I.bC with
 |true=>some (h.n,h.push (.cells cs el .own 0 0))
 |false=>none
def k6(P:Program)(t:TypeId):Option Bool:=
 match P.underlying t with
 |some (.struct _)=>some true
 |some (.array _ _)=>some true
 |some _=>some false
 |none=>none
def cV(P:Program)(t:TypeId):Option Nat:=match P.info? t with
 |some i=>some i.size
 |none=>none
def dN(P:Program)(t:TypeId):Option I:=match P.info? t with
 |some i=>match i.zero with
  |some z=>match mD z with
   |.bad=>none
   |a=>some a
  |none=>none
 |none=>none
def jR(P:Program)(t:TypeId)(cs:List I)(off:Nat):Option I:=
 match k6 P t,cV P t with
 |some true,some n=>match takeN n (g0 off cs) with
  |some r=>some (.agg r)
  |none=>none
 |some false,_=>nth off cs
 |_,_=>none
def iq(place:Nat->Option (Nat×Nat))(cells:List I):List (Nat×I)->Option (List I)
 |[]=>some cells
 |(i,v)::rest=>
  match v with
  |.bad=>none
  |v=>match place i with
   |none=>none
   |some (off,size)=>
    match Nat.beq v.cells.length size&&Nat.ble (off+size) cells.length with
    |true=>match eB off v.cells cells with
     |some K4=>iq place K4 rest
     |none=>none
    |false=>none
def ej{α:Type}:Nat->List α->List α
 |0,_=>[]
 |n+1,l=>l++ej n l
def eqFields(P:Program)(E:TypeId->I->I->Option Bool)(xs ys:List I):List Field->Option Bool
 |[]=>some true
 |f::b2=>match decide (f.name= "_") with
  |true=>eqFields P E xs ys b2
  |false=>match jR P f.type xs f.offset,jR P f.type ys f.offset with
   |some a,some b=>match E f.type a b with
    |some true=>eqFields P E xs ys b2
    |r=>r
   |_,_=>none
def uW(P:Program)(E:TypeId->I->I->Option Bool)(e:TypeId)(sz:Nat)(xs ys:List I):Nat->Nat->Option Bool
 |0,_=>some true
 |n+1,i=>match jR P e xs (i*sz),jR P e ys (i*sz) with
  |some a,some b=>match E e a b with
   |some true=>uW P E e sz xs ys n (i+1)
   |r=>r
  |_,_=>none
def Aq(h:J)(a i b j:Nat):Option Bool:=
 match Nat.beq a b with
 |true=>some (Nat.beq i j)
 |false=>match h.get a,h.get b with
  |some (.cells _ _ .own 0 0),some (.cells _ _ .own 0 0)=>some false
  |_,_=>none
def g1(P:Program)(h:J):Nat->TypeId->I->I->Option Bool
 |0,_,_,_=>none
 |d+1,t,x,y=>
  match P.underlying t with
  |none=>none
  |some .bool=>match x,y with
   |.bool a,.bool b=>some (a==b)
   |_,_=>none
  |some (.int _)=>match x,y with
   |.int j a,.int k b=>if j=k then some (cU a b) else none
   |_,_=>none
  |some .string=>match x,y with
   |.str a,.str b=>some (bR a b)
   |_,_=>none
  |some (.pointer e)=>match x,y with
   |.bd,.bd=>some true
   |.bd,.ptr _ _=>some false
   |.ptr _ _,.bd=>some false
   |.ptr a i,.ptr b j=>match cV P e with
    |some (_+1)=>Aq h a i b j
    |_=>none
   |_,_=>none
  |some (.slice _)=>match x,y with
   |.a0,.a0=>some true
   |.a0,.slice _ _ _ _=>some false
   |.slice _ _ _ _,.a0=>some false
   |_,_=>none
  |some (.map _ _)=>match x,y with
   |.gm,.gm=>some true
   |.gm,.map _=>some false
   |.map _,.gm=>some false
   |_,_=>none
  |some (.func _ _ _)=>match x,y with
   |.eN,.eN=>some true
   |.eN,.fn _ _ _=>some false
   |.fn _ _ _,.eN=>some false
   |_,_=>none
  |some (.interface _)=>match x,y with
   |.dW,.dW=>some true
   |.dW,.iface _ _=>some false
   |.iface _ _,.dW=>some false
   |.iface a v,.iface b w=>match Nat.beq a b with
    |false=>some false
    |true=>match P.info? a with
     |some i=>match i.comparable with
      |true=>g1 P h d a v w
      |false=>none
     |none=>none
   |_,_=>none
  |some (.struct b2)=>match x,y with
   |.agg xs,.agg ys=>match P.stoodInHeld t with
    |true=>none
    |false=>eqFields P (g1 P h d) xs ys b2.toList
   |_,_=>none
  |some (.array n e)=>match x,y with
   |.agg xs,.agg ys=>match cV P e with
    |some sz=>uW P (g1 P h d) e sz xs ys n 0
    |none=>none
   |_,_=>none
  |some _=>none
def pL(P:Program)(t:TypeId)(x y:Operand)(a b:I):Bool:=
 match a,b with
 |.dW,.dW=>(x matches .const _)||(y matches .const _)
 |.agg _,.agg _=>!P.eqGuardType P.depth t
 |_,_=>true
def arith(op:BinOp)(k:IntKind)(x y:Int):Option I:=
 match op with
 |.add=>some (.int k (k.wrap (x+y)))
 |.sub=>some (.int k (k.wrap (x-y)))
 |.mul=>some (.int k (k.wrap (x*y)))
 |.quo=>if y=0 then none else some (.int k (k.wrap (x.tdiv y)))
 |.rem=>if y=0 then none else some (.int k (x.tmod y))
 |.and=>some (.int k (k.wrap (BitVec.ofInt k.bits x&&&BitVec.ofInt k.bits y).toNat))
 |.or=>some (.int k (k.wrap (BitVec.ofInt k.bits x|||BitVec.ofInt k.bits y).toNat))
 |.xor=>some (.int k (k.wrap (BitVec.ofInt k.bits x^^^BitVec.ofInt k.bits y).toNat))
 |.andNot=>some (.int k (k.wrap (BitVec.ofInt k.bits x&&& ~~~BitVec.ofInt k.bits y).toNat))
 |.eql=>some (.bool (cU x y))
 |.neq=>some (.bool (!cU x y))
 |.lss=>some (.bool (et x y))
 |.leq=>some (.bool (fh x y))
 |.gtr=>some (.bool (et y x))
 |.geq=>some (.bool (fh y x))
 |_=>none
def nx(op:BinOp)(k:IntKind)(x y:Int):Option I:=
 if y<0 then none else
 match op with
 |.shl=>some (.int k (k.wrap (x*2^(min y.toNat k.bits))))
 |.shr=>some (.int k (x.fdiv (2^(min y.toNat k.bits))))
 |_=>none
def oA(op:BinOp)(x y:List UInt8):Option I:=
 match op with
 |.add=>if((x.length+y.length:Nat):Int)>IntKind.i64.max then none else some (.str (x++y))
 |.eql=>some (.bool (bR x y))
 |.neq=>some (.bool (!bR x y))
 |.lss=>some (.bool (eA x y))
 |.leq=>some (.bool (!eA y x))
 |.gtr=>some (.bool (eA y x))
 |.geq=>some (.bool (!eA x y))
 |_=>none
def dX(P:Program)(h:J)(op:BinOp)(t:TypeId)(jh ji:Operand)(x y:I):Option I:=
 match x,y with
 |.int k a,.int dH b=>
  match op with
  |.shl|.shr=>nx op k a b
  |_=>if k=dH then arith op k a b else none
 |.str a,.str b=>oA op a b
 |x,y=>
  match op with
  |.eql=>if pL P t jh ji x y then(match g1 P h 100 t x y with
   |some b=>some (.bool b)
   |none=>none) else none
  |.neq=>if pL P t jh ji x y then(match g1 P h 100 t x y with
   |some b=>some (.bool (!b))
   |none=>none) else none
  |_=>none
def e2:I->Option Nat
 |.int _ (.ofNat n)=>some n
 |_=>none
def iJ(d:Nat):Option I->Option Nat
 |none=>some d
 |some v=>e2 v
def bounds(len cap:Nat)(a9 ae mx:Option I):Option (Nat×Nat×Nat):=
 match iJ cap mx with
 |none=>none
 |some m=>match Nat.ble m cap with
  |false=>none
  |true=>match(match ae,mx with
     |none,none=>some len
     |none,some _=>none
     |some v,_=>e2 v) with
   |none=>none
   |some ah=>match Nat.ble ah m with
    |false=>none
    |true=>match iJ 0 a9 with
     |none=>none
     |some l=>match Nat.ble l ah with
      |false=>none
      |true=>some (l,ah,m)
def eu(P:Program)(h:J)(t:TypeId)(x:I)(a9 ae mx:Option I):Option I:=
 match P.underlying t,x with
 |some .string,.str s=>match mx with
  |some _=>none
  |none=>match bounds s.length s.length a9 ae none with
   |some (l,ah,_)=>some (.str (List.take (ah-l) (g0 l s)))
   |none=>none
 |some (.slice e),.a0=>match cV P e,bounds 0 0 a9 ae mx with
  |some _,some _=>some .a0
  |_,_=>none
 |some (.slice e),.slice b off len (.exact cap)=>match cV P e,bounds len cap a9 ae mx with
  |some sz,some (l,ah,m)=>some (.slice b (if m=l then off else off+l*sz) (ah-l) (.exact (m-l)))
  |_,_=>none
 |some (.slice e),.slice b off len (.aN fA)=>match cV P e with
  |some sz=>if sz=fA then(match mx with
   |none=>match bounds len len a9 ae none with
    |some (l,ah,_)=>if l=0 then some (.slice b off ah (.aN fA)) else if Nat.blt l len then some (.slice b (off+l*sz) (ah-l) (.aN fA)) else some (.slice b off 0 .dead)
    |none=>none
   |some _=>match bounds len len a9 ae mx with
    |some (l,ah,m)=>some (.slice b (if m=l then off else off+l*sz) (ah-l) (.exact (m-l)))
    |none=>none) else none
  |none=>none
 |some (.slice e),.slice b off len .dead=>match cV P e,bounds 0 0 a9 ae mx with
  |some _,some _=>some (.slice b off 0 .dead)
  |_,_=>none
 |some (.array n e),.ptr b off=>match cV P e,bounds n n a9 ae mx with
  |some sz,some (l,ah,m)=>some (.slice b (if m=l then off else off+l*sz) (ah-l) (.exact (m-l)))
  |_,_=>none
 |some (.pointer arr),.ptr b off=>match P.underlying arr with
  |some (.array n e)=>match cV P e,bounds n n a9 ae mx with
   |some sz,some (l,ah,m)=>some (.slice b (if m=l then off else off+l*sz) (ah-l) (.exact (m-l)))
   |_,_=>none
  |_=>none
 |_,_=>none
def cb(P:Program)(h:J)(t:TypeId)(x:I):Option I:=
 match P.underlying t,x with
 |some .string,.str s=>some (.int .i64 (Int.ofNat s.length))
 |some (.array n _),_=>some (.int .i64 (Int.ofNat n))
 |some (.slice _),.slice _ _ n _=>some (.int .i64 (Int.ofNat n))
 |some (.slice _),.a0=>some (.int .i64 0)
 |some (.map _ _),.gm=>some (.int .i64 0)
 |some (.map _ _),.map r=>match h.get r with
  |some (.map es _)=>some (.int .i64 (Int.ofNat es.length))
  |_=>none
 |some (.pointer a),_=>match P.underlying a with
  |some (.array n _)=>some (.int .i64 (Int.ofNat n))
  |_=>none
 |_,_=>none
def xz(P:Program)(t:TypeId)(x:I):Option I:=
 match P.underlying t,x with
 |some (.array n _),_=>some (.int .i64 (Int.ofNat n))
 |some (.slice _),.slice _ _ _ (.exact n)=>some (.int .i64 (Int.ofNat n))
 |some (.slice _),.a0=>some (.int .i64 0)
 |_,_=>none
def cD:List UInt8->List I
 |[]=>[]
 |b::l=>.int .u8 (Int.ofNat b.toNat)::cD l
def ho(h:J)(size:Nat):I->Option (Nat×List I)
 |.a0=>some (0,[])
 |.str s=>match size with
  |1=>some (s.length,cD s)
  |_=>none
 |.slice b off len .dead=>if len=0 then some (0,[]) else none
 |.slice b off len _=>match loadCells h b off (len*size) with
  |some cs=>some (len,cs)
  |none=>none
 |_=>none
def ks(need bytes:Nat):Bool:=Nat.ble ((4*need+2048)*(bytes+1)) 281474976710656
def ny(P:Program):Option TypeId->Bool
 |none=>true
 |some t=>match P.underlying t with
  |some (.int _)=>false
  |some _=>true
  |none=>false
def jz(h:J)(e bytes size need:Nat)(z:I)(cs:List I)(fz:Nat):Option (I×J):=
 match ks need bytes&&Nat.beq z.cells.length size&&cs.all I.bC with
 |true=>some (.slice h.n 0 need (.aN size),h.push (.cells cs e .aN 0 fz))
 |false=>none
def fW(P:Program)(h:J)(sT:TypeId)(xT:Option TypeId)(s x:I):Option (I×J):=
 match P.underlying sT,ny P xT with
 |some (.slice e),true=>
  match P.info? e,dN P e with
  |some i,some z=>
   match ho h i.size x with
   |none=>none
   |some (n,cs)=>
    match s with
    |.a0=>match n with
     |0=>some (.a0,h)
     |_=>jz h e i.bytes i.size n z cs 0
    |.slice b off len (.exact cap)=>
     match Nat.ble (len+n) cap with
     |true=>match n with
      |0=>some (.slice b off len (.exact cap),h)
      |_=>match storeCells h b (off+len*i.size) cs with
       |some ak=>some (.slice b off (len+n) (.exact cap),ak)
       |none=>none
     |false=>match loadCells h b off (len*i.size) with
      |some old=>jz h e i.bytes i.size (len+n) z (old++cs) 0
      |none=>none
    |.slice b off len (.aN fA)=>
     match Nat.beq fA i.size&&Nat.blt 0 fA with
     |true=>match n with
      |0=>some (s,h)
      |_=>match h.get b with
       |some (.cells old el .aN a9 ae)=>
        match Nat.ble (off+(len+n)*fA) old.length with
        |true=>match storeCells h b (off+len*fA) cs with
         |some ak=>some (.slice b off (len+n) (.aN fA),ak)
         |none=>none
        |false=>match Nat.ble ae (off+len*fA)&&Nat.beq el e,loadCells h b off (len*fA) with
         |true,some o=>jz (h.set b none) e i.bytes i.size (len+n) z (o++cs) (ae-off)
         |_,_=>none
       |_=>none
     |false=>none
    |_=>none
  |_,_=>none
 |_,_=>none
def xA(P:Program)(h:J)(xB:TypeId)(d s:I):Option (I×J):=
 match P.underlying xB with
 |some (.slice e)=>match cV P e with
  |some sz=>match ho h sz s with
   |some (n,cs)=>match d with
    |.a0=>some (.int .i64 0,h)
    |.slice b off len _=>
     let m:=Nat.min n len
     if m=0 then some (.int .i64 0,h) else
     match takeN (m*sz) cs with
     |some bH=>match storeCells h b off bH with
      |some ak=>some (.int .i64 (Int.ofNat m),ak)
      |none=>none
     |none=>none
    |_=>none
   |none=>none
  |none=>none
 |_=>none
def nz(P:Program)(h:J)(t:TypeId)(x:I):Option (I×J):=
 match P.underlying t,x with
 |some (.map _ _),.gm=>some (.aK [],h)
 |some (.slice _),.a0=>some (.aK [],h)
 |some (.map _ _),.map r=>match h.get r with
  |some (.map _ c)=>some (.aK [],h.set r (some (.map [] c)))
  |_=>none
 |some (.slice e),.slice b off n _=>if n=0 then some (.aK [],h) else
  match dN P e with
  |some z=>match storeCells h b off (ej n z.cells) with
   |some ak=>some (.aK [],ak)
   |none=>none
  |none=>none
 |_,_=>none
def hp:I->I->Option I
 |.int k x,.int dH y=>if k=dH then some (.int k (if et y x then y else x)) else none
 |_,_=>none
def uX:I->I->Option I
 |.int k x,.int dH y=>if k=dH then some (.int k (if et x y then y else x)) else none
 |_,_=>none
def gP(f:I->I->Option I):I->List I->Option I
 |x,[]=>some x
 |x,y::l=>match f x y with
  |some z=>gP f z l
  |none=>none
def lQ:List I->Option (List UInt8)
 |[]=>some []
 |.int .u8 (.ofNat n)::l=>match Nat.blt n 256,lQ l with
  |true,some r=>some (UInt8.ofNat n::r)
  |_,_=>none
 |_=>none
def oB(P:Program)(h:J)(pT:TypeId)(p n:I):Option (I×J):=
 match p,e2 n with
 |.bd,some 0=>some (.str [],h)
 |.ptr b off,some n=>if n=0 then some (.str [],h) else
  match P.underlying pT,h.get b with
  |some (.pointer u),some (.cells cs el k a9 ae)=>
   if P.underlyingId el=P.underlyingId u&&cV P el=some 1&&Nat.ble n 281474976710656&&decide (k≠ .ro) then
    (match takeN n (g0 off cs) with
    |some r=>match lQ r with
     |some bs=>some (.str bs,h.set b (some (.cells cs el .fz a9 ae)))
     |none=>none
    |none=>none) else none
  |_,_=>none
 |_,_=>none
def hq(P:Program)(cI:TypeId)(k:I):Bool:=
 match P.underlying cI with
 |some (.int _)=>match k with
  |.int _ _=>true
  |_=>false
 |some .string=>match k with
  |.str _=>true
  |_=>false
 |some .bool=>match k with
  |.bool _=>true
  |_=>false
 |_=>false
def xC(P:Program)(cs:List I):List Field->Bool
 |[]=>true
 |f::b2=>match jR P f.type cs f.offset with
  |some a=>match hq P f.type a with
   |true=>xC P cs b2
   |false=>false
  |none=>false
def xD(P:Program)(e:TypeId)(sz:Nat)(cs:List I):Nat->Nat->Bool
 |0,_=>true
 |n+1,i=>match jR P e cs (i*sz) with
  |some a=>match hq P e a with
   |true=>xD P e sz cs n (i+1)
   |false=>false
  |none=>false
def nA(P:Program)(cI:TypeId)(k:I):Bool:=
 match k with
 |.agg cs=>match P.underlying cI with
  |some (.struct b2)=>xC P cs b2.toList
  |some (.array n e)=>match cV P e with
   |some sz=>xD P e sz cs n 0
   |none=>false
  |_=>false
 |k=>hq P cI k
def oC:I->I->Option Bool
 |.int j a,.int k b=>if j=k then some (cU a b) else none
 |.str a,.str b=>some (bR a b)
 |.bool a,.bool b=>some (a==b)
 |_,_=>none
def uY:List I->List I->Bool
 |[],[]=>true
 |a::l,b::m=>match oC a b with
  |some true=>uY l m
  |_=>false
 |_,_=>false
def pM(k x:I):Bool:=match k,x with
 |.agg a,.agg b=>uY a b
 |.agg _,_=>false
 |_,_=>true
def uZ(P:Program)(h:J)(cI:TypeId)(k x:I):Option Bool:=match k with
 |.agg cs=>g1 P h 8 cI (.agg cs) x
 |k=>oC k x
def jA(P:Program)(h:J)(cI:TypeId)(k:I):List e1->Nat->Option (Option (Nat×I))
 |[],_=>some none
 |e::es,i=>match uZ P h cI k e.key with
  |some true=>some (some (i,e.val))
  |some false=>jA P h cI k es (i+1)
  |none=>none
def u0(i:Nat)(es:List e1):I:=match nth i es with
 |some e=>e.key
 |none=>.bad
def q9(v:I)(key:I):Nat->List e1->List e1
 |_,[]=>[]
 |0,e::es=>⟨key,v,e.born⟩::es
 |n+1,e::es=>e::q9 v key n es
def u1(P:Program)(hc:TypeId)(ok:Bool):Option (Nat×I)->Option I
 |some (_,v)=>some (if ok then .aK [v,.bool true] else v)
 |none=>match dN P hc with
  |some z=>some (if ok then .aK [z,.bool false] else z)
  |none=>none
def xE(P:Program)(h:J)(t:TypeId)(m k:I)(ok:Bool):Option I:=
 match P.underlying t with
 |some (.map cI hc)=>match nA P cI k with
  |true=>match m with
   |.gm=>u1 P hc ok none
   |.map r=>match h.get r with
    |some (.map es _)=>match jA P h cI k es 0 with
     |some r=>u1 P hc ok r
     |none=>none
    |_=>none
   |_=>none
  |false=>none
 |_=>none
def te(P:Program)(h:J)(t:TypeId)(m k v:I):Option J:=
 match P.underlying t with
 |some (.map cI _)=>match nA P cI k with
  |true=>match m with
   |.map r=>match h.get r with
    |some (.map es clock)=>match jA P h cI k es 0 with
     |some (some (i,_))=>match pM k (u0 i es) with
      |true=>some (h.set r (some (.map (q9 v k i es) clock)))
      |false=>none
     |some none=>some (h.set r (some (.map (es++[⟨k,v,clock⟩]) (clock+1))))
     |none=>none
    |_=>none
   |_=>none
  |false=>none
 |_=>none
def xF(P:Program)(h:J)(t:TypeId)(m k:I):Option (I×J):=
 match P.underlying t with
 |some (.map cI hc)=>match nA P cI k with
  |true=>match m with
   |.map r=>match h.get r with
    |some (.map es clock)=>match jA P h cI k es 0 with
     |some (some (i,v))=>match nth i es with
      |some e=>match pM k e.key with
       |true=>some (.aK [v,.int .i64 (Int.ofNat e.born)],h.set r (some (.map (q9 v k i es) clock)))
       |false=>none
      |none=>none
     |some none=>match dN P hc with
      |some z=>some (.aK [z,.int .i64 (Int.ofNat clock)],h.set r (some (.map (es++[⟨k,z,clock⟩]) (clock+1))))
      |none=>none
     |none=>none
    |_=>none
   |_=>none
  |false=>none
 |_=>none
def u2(born:Int):List e1->Nat->Option (Nat×e1)
 |[],_=>none
 |e::es,i=>match cU (Int.ofNat e.born) born with
  |true=>some (i,e)
  |false=>u2 born es (i+1)
def xG(h:J)(m s v:I):Option J:=
 match m,s with
 |.map r,.int _ born=>match h.get r with
  |some (.map es clock)=>match u2 born es 0 with
   |some (i,e)=>some (h.set r (some (.map (q9 v e.key i es) clock)))
   |none=>none
  |_=>none
 |_,_=>none
def Ar:Nat->List e1->List e1
 |_,[]=>[]
 |0,_::es=>es
 |n+1,e::es=>e::Ar n es
def xH(P:Program)(h:J)(t:TypeId)(m k:I):Option (I×J):=
 match P.underlying t with
 |some (.map cI _)=>match nA P cI k with
  |true=>match m with
   |.gm=>some (.aK [],h)
   |.map r=>match h.get r with
    |some (.map es clock)=>match jA P h cI k es 0 with
     |some (some (i,_))=>some (.aK [],h.set r (some (.map (Ar i es) clock)))
     |some none=>some (.aK [],h.set r (some (.map es clock)))
     |none=>none
    |_=>none
   |_=>none
  |false=>none
 |_=>none
def As(s:List UInt8):Nat×Nat:=Utf8.decode ⟨s.toArray⟩ 0
def xI(h:J)(it:I)(isStr:Bool):Option (I×J):=
 match it with
 |.ptr r 0=>match h.get r,isStr with
  |some (.nw s pos),true=>
   (match s with
   |[]=>some (.aK [.bool false],h)
   |s=>let(c,w):=As s
    some (.aK [.bool true,.int .i64 (Int.ofNat pos),.int .i32 (Int.ofNat c)],h.set r (some (.nw (g0 w s) (pos+w)))))
  |some (.mapIter none _ _ _),false=>some (.aK [.bool false],h)
  |_,_=>none
 |_=>none
def u3(b:Nat):List e1->Option e1
 |[]=>none
 |e::l=>match Nat.beq e.born b with
  |true=>some e
  |false=>u3 b l
def xJ:List Nat->Option Nat
 |[]=>none
 |[b]=>some b
 |_::b::l=>xJ (b::l)
def xK(h:J)(it:I):Option I:=
 match it with
 |.ptr r 0=>match h.get r with
  |some (.mapIter (some m) _ seen last)=>match h.get m,xJ seen with
   |some (.map es clock),some b=>match Nat.beq clock last with
    |true=>match u3 b es with
     |some e=>some (.aK [e.key,e.val])
     |none=>none
    |false=>none
   |_,_=>none
  |_=>none
 |_=>none
end aw
namespace aw
open Go
inductive bt where
 |none|act (v:I)|done (v:I)
inductive bu where
 |nrm|exit (id:Nat)|ret|goto (l:Nat)|bK (v:I)
inductive hZ where
 |ok (e:bu) (r:aL) (d:List bA) (q:bt) (h:J)
 |fail (hI:String)
inductive aP where
 |fn (f:Nat)|bQ (l:Nat)
inductive Acc where
 |env (j:Nat)|jS (p:gZ)|val (v:I)
def dk(m:Nat)(env:List I)(r:aL):Acc->I
 |.env j=>(nth (m-1-j) env).getD .bad
 |.jS p=>r.get p
 |.val v=>v
def hd(t:Nat):List (Nat×Acc)->Option Acc
 |[]=>none
 |(u,a)::l=>match Nat.beq t u with
  |true=>some a
  |false=>hd t l
def cw(P:Program)(need:Nat)(loc:List (Nat×Acc)):Operand->Acc
 |.tmp t=>match hd t loc with
  |some a=>a
  |none=>match Nat.testBit need t with
   |true=>.jS (fV t)
   |false=>.val .bad
 |.const v=>.val (mD v)
 |.global g=>match Nat.blt g P.globals.size with
  |true=>.val (.ptr g 0)
  |false=>.val .bad
 |.func f=>.val (.fn f [] [])
def q_(f:I)(args:List I)(h:J):gg:=
 match f with
 |.fn g first aF=>.call g (first++args++aF) h
 |.bQ l=>.bQ l args h
 |_=>.fail "callVal"
def e3(h:J)(hI:String):Option I->gg
 |some v=>.val v h
 |none=>.fail hI
def jT(hI:String):Option (I×J)->gg
 |some (v,h)=>.val v h
 |none=>.fail hI
def oD(hI:String):Option J->gg
 |some h=>.val (.aK []) h
 |none=>.fail hI
def kindName:I->String
 |.bad=> "bad" |.bool _=> "bool" |.int _ n=> "int" ++toString n|.str s=> "str" ++toString s.length|.bd=> "nilP" |.ptr b o=> "ptr" ++toString b++ "+" ++toString o|.a0=> "nilS" |.slice b o n c=> "slice" ++toString b++ "+" ++toString o++ "," ++toString n++(match c with|.exact k=> "x" ++toString k|.aN _=> "o" |.dead=> "d")
 |.gm=> "nilM" |.map _=> "map" |.eN=> "nilF" |.fn f _ _=> "fn" ++toString f|.bQ _=> "yld" |.dW=> "nilI" |.iface t _=> "iface" ++toString t|.agg l=> "agg" ++toString l.length|.aK l=> "tup" ++toString l.length
def xL(P:Program)(t:TypeId)(name:String):Option Nat:=
 match P.info? t with
 |some i=>match i.methods.find? (·.name==name) with
  |some m=>match m.path.isEmpty,m.func,P.underlying t with
   |true,some (f,true),some (.pointer _)=>some f
   |true,some (f,false),some (.pointer _)=>none
   |true,some (f,false),some _=>some f
   |_,_,_=>none
  |none=>none
 |none=>none
def hg(P:Program)(b:Builtin)(ats:Array TypeId)(vs:List I)(h:J):gg:=
 match b with
 |.recover=>.q8
 |.min=>match vs with
  |x::l=>e3 h "min" (gP hp x l)
  |[]=>.fail "min"
 |.max=>match vs with
  |x::l=>e3 h "max" (gP uX x l)
  |[]=>.fail "max"
 |b=>match ats[0]?,vs with
  |some t,[x]=>match b with
   |.len=>e3 h ("len " ++kindName x) (cb P h t x)
   |.cap=>e3 h "cap" (xz P t x)
   |.clear=>jT "clear" (nz P h t x)
   |.unsafeSliceData=>match x with
    |.a0=>.val .bd h
    |.slice b off n (.exact c)=>if c=0 then .fail "SliceData" else .val (.ptr b off) h
    |.slice b off n (.aN _)=>if n=0 then .fail "SliceData" else .val (.ptr b off) h
    |_=>.fail "SliceData"
   |_=>.fail "builtin"
  |some t,[x,y]=>match b with
   |.append=>jT ("append " ++kindName x++ " " ++kindName y) (fW P h t ats[1]? x y)
   |.copy=>jT "copy" (xA P h t x y)
   |.delete=>jT "delete" (xH P h t x y)
   |.unsafeString=>jT "usString" (oB P h t x y)
   |_=>.fail "builtin"
  |_,_=>.fail "builtin"
def fp(P:Program)(src dst:TypeId)(x:I)(h:J):gg:=
 match P.underlying src,P.underlying dst,x with
 |some (.int _),some (.int k),.int _ n=>.val (.int k (k.wrap n)) h
 |some (.int _),some .string,.int _ n=>.val (.str (Utf8.encode n).data.toList) h
 |some .string,some .string,.str s=>.val (.str s) h
 |some .string,some (.slice e),.str s=>match P.underlying e with
  |some (.int .u8)=>.val (.slice h.n 0 s.length (.aN 1)) (h.push (.cells (cD s) e .aN 0 0))
  |_=>.fail "convert to runes"
 |some (.slice e),some .string,v=>match P.underlying e,v with
  |some (.int .u8),.a0=>.val (.str []) h
  |some (.int .u8),.slice b off n .dead=>if n=0 then .val (.str []) h else .fail "convert dead"
  |some (.int .u8),.slice b off n _=>match loadCells h b off n with
   |some cs=>match lQ cs with
    |some bs=>.val (.str bs) h
    |none=>.fail "convert bytes"
   |none=>.fail "convert bytes"
  |_,_=>.fail "convert slice to string"
 |some (.pointer u),some .unsafePointer,.ptr b off=>match h.get b,cV P u with
  |some (.cells cs _ _ _ _),some (_+1)=>if Nat.blt off cs.length then .val (.ptr b off) h else .fail "convert pointer"
  |_,_=>.fail "convert pointer"
 |some .unsafePointer,some (.pointer u),.ptr b off=>match h.get b,cV P u with
  |some (.cells cs el .own _ _),some (_+1)=>if liesAt P P.depth el (cs.length/P.cellsOf el) off u 1 then .val (.ptr b off) h else .fail "convert from pointer"
  |_,_=>.fail "convert from pointer"
 |_,_,v=>.fail ("convert " ++kindName v)
def ch(P:Program)(o:Oper)(g:Operand->I)(h:J):gg:=
 match o.op with
 |.move x|.assign x=>.val (g x) h
 |.pick c a b=>match g c with
  |.bool true=>.val (g a) h
  |.bool false=>.val (g b) h
  |_=>.fail "pick"
 |.alloc e=>match dN P e with
  |some z=>match newRow h e z.cells with
   |some (b,ak)=>.val (.ptr b 0) ak
   |none=>.fail "alloc"
  |none=>.fail "alloc"
 |.box e x=>match newRow h e (g x).cells with
  |some (b,ak)=>.val (.ptr b 0) ak
  |none=>.fail "box"
 |.build t parts=>match dN P t with
  |some z=>match P.underlying t with
   |some (.struct b2)=>match b2.toList.all (λf=>(cV P f.type).isSome),iq (λi=>(b2[i]?).map λf=>(f.offset,P.cellsOf f.type)) z.cells (parts.toList.map λp=>(p.1,g p.2)) with
    |true,some cs=>.val (.agg cs) h
    |_,_=>.fail "build"
   |some (.array _ e)=>match cV P e with
    |some sz=>match iq (λi=>some (i*sz,sz)) z.cells (parts.toList.map λp=>(p.1,g p.2)) with
     |some cs=>.val (.agg cs) h
     |none=>.fail "build array"
    |none=>.fail "build"
   |_=>.fail "build"
  |none=>.fail "build"
 |.buildSlice t len parts=>match P.underlying t with
  |some (.slice e)=>match cV P e,dN P e with
   |some sz,some z=>match Nat.ble (len*sz) 16777216&&Nat.beq z.cells.length sz,iq (λi=>some (i*sz,sz)) (if len*sz=0 then[] else ej len z.cells) (parts.toList.map λp=>(p.1,g p.2)) with
    |true,some cs=>match newRow h e cs with
     |some (b,ak)=>.val (.slice b 0 len (.exact len)) ak
     |none=>.fail "buildSlice"
    |_,_=>.fail "buildSlice"
   |_,_=>.fail "buildSlice"
  |_=>.fail "buildSlice"
 |.insert t m k v=>oD "insert" (te P h t (g m) (g k) (g v))
 |.load t a=>match g a with
  |.ptr b off=>match k6 P t,cV P t with
   |some true,some n=>match loadCells h b off n with
    |some cs=>.val (.agg cs) h
    |none=>.fail ("load agg " ++toString b++ "+" ++toString off)
   |some false,_=>e3 h ("load " ++toString b++ "+" ++toString off) (ay h b off)
   |_,_=>.fail "load"
  |v=>.fail ("load of " ++kindName v)
 |.store t a v=>match g a with
  |.ptr b off=>match g v,cV P t with
   |.bad,_=>.fail "store bad"
   |v,some n=>match Nat.beq v.cells.length n with
    |true=>oD "store" (storeCells h b off v.cells)
    |false=>.fail "store size"
   |_,none=>.fail "store"
  |_=>.fail "store"
 |.ready _|.waits _=>.fail "ready"
 |.nilCheck x=>match g x with
  |.ptr b o=>.val (.ptr b o) h
  |.slice b o n c=>.val (.slice b o n c) h
  |.fn f a b=>.val (.fn f a b) h
  |.iface t v=>.val (.iface t v) h
  |_=>.fail "nilCheck"
 |.binOp op t x y _=>e3 h ("binOp " ++kindName (g x)++ " " ++kindName (g y)) (dX P h op t x y (g x) (g y))
 |.unOp op _ x=>match op,g x with
  |.not,.bool b=>.val (.bool (!b)) h
  |.neg,.int k n=>.val (.int k (k.wrap (0-n))) h
  |.xor,.int k n=>e3 h "unOp" (arith .xor k (if k.signed then-1 else k.max) n)
  |_,_=>.fail "unOp"
 |.convert src dst x=>fp P src dst (g x) h
 |.sliceToArrayPointer .. =>.fail "sliceToArrayPointer"
 |.makeInterface t x=>match P.underlying t with
  |some (.interface _)=>.fail "makeInterface"
  |some _=>.val (.iface t (g x)) h
  |none=>.fail "makeInterface"
 |.makeFunc fn first aF=>match fn with
  |.func f=>.val (.fn f (first.toList.map g) (aF.toList.map g)) h
  |_=>.fail "makeFunc"
 |.makeMap t r=>match r with
  |none=>.val (.map h.n) (h.push (.map [] 0))
  |some x=>match P.underlying t,g x with
   |some (.map _ _),.int _ _=>.val (.map h.n) (h.push (.map [] 0))
   |_,_=>.fail "makeMap"
 |.makeChan .. =>.fail "makeChan"
 |.makeSlice t l c=>match P.underlying t,e2 (g l),e2 (g c) with
  |some (.slice e),some l,some c=>match P.info? e,dN P e with
   |some i,some z=>if l<=c&&Nat.ble (c*(i.bytes+1)) 1099511627776&&Nat.beq z.cells.length i.size then(match newRow h e (if c*i.size=0 then[] else ej c z.cells) with
    |some (b,ak)=>.val (.slice b 0 l (.exact c)) ak
    |none=>.fail "makeSlice") else .fail "makeSlice bounds"
   |_,_=>.fail "makeSlice"
  |_,_,_=>.fail "makeSlice"
 |.slice t x a9 ae mx=>e3 h ("slice " ++kindName (g x)++((a9.map λo=>kindName (g o)).getD "-")++((ae.map λo=>kindName (g o)).getD "-")) (eu P h t (g x) (a9.map g) (ae.map g) (mx.map g))
 |.fieldAddr s x f=>match P.underlying s,g x with
  |some (.struct b2),.ptr b off=>match b2[f]? with
   |some fd=>match cV P fd.type with
    |some 0=>.fail "fieldAddr 0"
    |some _=>.val (.ptr b (off+fd.offset)) h
    |none=>.fail "fieldAddr"
   |none=>.fail "fieldAddr"
  |_,v=>.fail ("fieldAddr " ++kindName v)
 |.field t x f=>match P.underlying t,g x with
  |some (.struct b2),.agg cs=>match b2[f]? with
   |some fd=>e3 h "field" (jR P fd.type cs fd.offset)
   |none=>.fail "field"
  |_,_=>.fail "field"
 |.indexAddr t x i=>match P.underlying t,g x,e2 (g i) with
  |some (.array n e),.ptr b off,some i=>match cV P e with
   |some sz=>if i<n then .val (.ptr b (off+i*sz)) h else .fail "indexAddr range"
   |none=>.fail "indexAddr"
  |some (.slice e),.slice b off n c,some i=>match cV P e with
   |some sz=>if i<n then .val (.ptr b (off+i*sz)) h else .fail "indexAddr range"
   |none=>.fail "indexAddr"
  |_,v,w=>.fail ("indexAddr " ++kindName v++kindName (g i))
 |.index t x i=>match P.underlying t,g x,e2 (g i) with
  |some (.array n e),.agg cs,some i=>match cV P e with
   |some sz=>if i<n then e3 h "index" (jR P e cs (i*sz)) else .fail "index range"
   |none=>.fail "index"
  |some .string,.str s,some i=>match nth i s with
   |some b=>.val (.int .u8 (Int.ofNat b.toNat)) h
   |none=>.fail "index str range"
  |_,_,_=>.fail "index"
 |.lookup t x i ok=>e3 h "lookup" (xE P h t (g x) (g i) ok)
 |.mapUpdate t m k v=>oD "mapUpdate" (te P h t (g m) (g k) (g v))
 |.mapEntry t m k=>jT "mapEntry" (xF P h t (g m) (g k))
 |.entryStore t m s v=>oD "entryStore" (xG h (g m) (g s) (g v))
 |.range t x=>match P.underlying t,g x with
  |some .string,.str s=>.val (.ptr h.n 0) (h.push (.nw s 0))
  |some (.map _ _),.gm=>.val (.ptr h.n 0) (h.push (.mapIter none 0 [] 0))
  |some (.map _ _),.map m=>match h.get m with
   |some (.map _ c)=>.val (.ptr h.n 0) (h.push (.mapIter (some m) c [] c))
   |_=>.fail "range"
  |_,_=>.fail "range"
 |.next it isStr=>jT "next" (xI h (g it) isStr)
 |.entry it=>e3 h "entry" (xK h (g it))
 |.typeAssert x xT as ok=>match P.underlying as,g x with
  |some (.interface _),_=>.fail "typeAssert to an interface"
  |some _,.dW=>if ok then(match dN P as with|some z=>.val (.aK [z,.bool false]) h|none=>.fail "typeAssert") else .fail "typeAssert nil"
  |some _,.iface t v=>if t=as then .val (if ok then .aK [v,.bool true] else v) h else
   if ok then(match dN P as with|some z=>.val (.aK [z,.bool false]) h|none=>.fail "typeAssert") else .fail "typeAssert fails"
  |_,_=>.fail "typeAssert"
 |.extract t i=>match g t with
  |.aK vs=>e3 h "extract" (nth i vs)
  |_=>.fail "extract"
 |.call c=>match c.callee with
  |.value f=>q_ (g f) (c.args.toList.map g) h
  |.invoke r name=>match g r with
   |.iface t v=>match xL P t name with
    |some f=>.call f (v::c.args.toList.map g) h
    |none=>.fail ("invoke " ++name)
   |_=>.fail ("invoke " ++name)
  |.builtin b=>hg P b c.argTypes (c.args.toList.map g) h
 |.go _=>.fail "go"
 |.defer c=>match c.callee with
  |.value f=>match g f with
   |.fn k first aF=>.iI (.call k (first++c.args.toList.map g++aF))
   |_=>.fail "defer"
  |_=>.fail "defer"
 |.panic x=>match g x with
  |.iface t v=>.bK (.iface t v) h
  |_=>.fail "panic"
 |.send .. |.recv .. |.select .. =>.fail "comm"
structure Step where
 guard:Option (Acc×Bool)
 o:Oper
 loc:List (Nat×Acc)
 m:Nat
structure Eu where
 steps:List Step
 loc:List (Nat×Acc)
def iK(P:Program)(need:Nat)(ops:Array Oper)(loc:List (Nat×Acc))(o:Oper):Option (Acc×Bool):=
 match o.guard with
 |none=>none
 |some (j,b)=>match(ops[j]?).bind (·.dst) with
  |some t=>some (cw P need loc (.tmp t),b)
  |none=>some (.val .bad,b)
def aliasOf(o:Oper):Option (Nat×Operand):=
 match o.guard,o.dst,o.op with
 |none,some t,.move x=>some (t,x)
 |none,some t,.assign x=>some (t,x)
 |_,_,_=>none
def kt(o:Oper)(m:Nat)(loc:List (Nat×Acc)):List (Nat×Acc):=
 match o.dst with
 |some t=>(t,.env m)::loc
 |none=>loc
def tf(P:Program)(need:Nat)(ops:Array Oper):List Oper->List (Nat×Acc)->List Step->Nat->Eu
 |[],loc,st,_=>⟨st.reverse,loc⟩
 |o::rest,loc,st,m=>
  match aliasOf o with
  |some (t,x)=>tf P need ops rest ((t,cw P need loc x)::loc) st m
  |none=>tf P need ops rest (kt o m loc) (⟨iK P need ops loc o,o,loc,m⟩::st) (m+1)
def nB(P:Program)(need:Nat)(ops:Array Oper):Eu:=tf P need ops ops.toList [] [] 0
inductive k7 where
 |ok (env:List I) (d:List bA) (q:bt) (h:J)
 |bK (v:I) (d:List bA) (q:bt) (h:J)
 |fail (hI:String)
inductive u4 where
 |ok (v:I) (d:List bA) (q:bt) (h:J)
 |bK (v:I) (d:List bA) (q:bt) (h:J)
 |fail (hI:String)
def dO:Option (I×Bool)->Option Bool
 |none=>some true
 |some (.bool c,b)=>some (c==b)
 |some (.aK [],_)=>some false
 |_=>none
def u5(d:List bA)(q:bt):av->u4
 |.ret v h=>.ok v d q h
 |.bK v h=>.bK v d q h
 |.fail w=>.fail w
def dm(P:Program)(inR:Bool)(call:aP->List I->J->av)(gd:Option (I×Bool))(o:Oper)(g:Operand->I)(d:List bA)(q:bt)(h:J):u4:=
 match dO gd with
 |none=>.fail ("guard " ++o.pos)
 |some false=>.ok (.aK []) d q h
 |some true=>
  match ch P o g h with
  |.val v ak=>.ok v d q ak
  |.bK v ak=>.bK v d q ak
  |.call f args ak=>u5 d q (call (.fn f) args ak)
  |.bQ l args ak=>u5 d q (call (.bQ l) args ak)
  |.iI x=>if inR then .fail "defer in a round" else .ok (.aK []) (x::d) q h
  |.q8=>if inR then .fail "recover in a round" else match q with
   |.none=>.ok .dW d .none h
   |.done v=>.ok .dW d (.done v) h
   |.act v=>.ok v d (.done v) h
  |.fail w=>.fail (w++ " at " ++o.pos)
def iL(P:Program)(need:Nat)(inR:Bool)(call:aP->List I->J->av)(r:aL):List Step->List I->List bA->bt->J->k7
 |[],env,d,q,h=>.ok env d q h
 |s::rest,env,d,q,h=>
  match dm P inR call (match s.guard with|none=>none|some (a,b)=>some (dk s.m env r a,b)) s.o (λx=>dk s.m env r (cw P need s.loc x)) d q h with
  |.ok v bn q' ak=>iL P need inR call r rest (v::env) bn q' ak
  |.bK v bn q' ak=>.bK v bn q' ak
  |.fail w=>.fail w
def cf.beq:cf->cf->Bool
 |.exact a,.exact b=>Nat.beq a b
 |.aN a,.aN b=>Nat.beq a b
 |.dead,.dead=>true
 |_,_=>false
mutual
def I.beq:I->I->Bool
 |.bool a,.bool b=>a==b
 |.int j a,.int k b=>decide (j=k)&&cU a b
 |.str a,.str b=>bR a b
 |.bd,.bd=>true
 |.ptr a i,.ptr b j=>Nat.beq a b&&Nat.beq i j
 |.a0,.a0=>true
 |.slice a i n c,.slice b j m d=>Nat.beq a b&&Nat.beq i j&&Nat.beq n m&&c.beq d
 |.gm,.gm=>true
 |.map a,.map b=>Nat.beq a b
 |.eN,.eN=>true
 |.fn f a b,.fn g c d=>Nat.beq f g&&I.iM a c&&I.iM b d
 |.bQ a,.bQ b=>Nat.beq a b
 |.dW,.dW=>true
 |.iface t v,.iface u w=>Nat.beq t u&&I.beq v w
 |.agg a,.agg b=>I.iM a b
 |.aK a,.aK b=>I.iM a b
 |_,_=>false
def I.iM:List I->List I->Bool
 |[],[]=>true
 |a::as,b::bs=>I.beq a b&&I.iM as bs
 |_,_=>false
end
inductive K5 where
 |pure|alloc|dI
def kindOf(P:Program):Op->K5
 |.move _|.assign _|.pick .. |.build .. |.load .. |.nilCheck _|.binOp .. |.unOp .. |.makeInterface .. |.makeFunc .. |.slice .. |.fieldAddr .. |.field .. |.indexAddr .. |.index .. |.lookup .. |.typeAssert .. |.extract .. =>.pure
 |.convert _ d _=>match P.underlying d with
  |some (.slice _)=>.dI
  |_=>.pure
 |.call c=>match c.callee with
  |.builtin .len|.builtin .cap|.builtin .min|.builtin .max|.builtin .unsafeSliceData=>.pure
  |_=>.dI
 |.alloc _|.box .. |.buildSlice .. |.makeSlice .. =>.alloc
 |.makeMap _ none=>.alloc
 |_=>.dI
def iN(P:Program)(o:Op)(g:Operand->I)(b:Nat):Option (I×ca):=
 match o with
 |.alloc e=>match dN P e with
  |some z=>match z.cells.all I.bC with
   |true=>some (.ptr b 0,.cells z.cells e .own 0 0)
   |false=>none
  |none=>none
 |.box e x=>match(g x).cells.all I.bC with
  |true=>some (.ptr b 0,.cells (g x).cells e .own 0 0)
  |false=>none
 |.buildSlice t len parts=>match P.underlying t with
  |some (.slice e)=>match cV P e,dN P e with
   |some sz,some z=>match Nat.ble (len*sz) 16777216&&Nat.beq z.cells.length sz,iq (λi=>some (i*sz,sz)) (if len*sz=0 then[] else ej len z.cells) (parts.toList.map λp=>(p.1,g p.2)) with
    |true,some cs=>match cs.all I.bC with
     |true=>some (.slice b 0 len (.exact len),.cells cs e .own 0 0)
     |false=>none
    |_,_=>none
   |_,_=>none
  |_=>none
 |.makeSlice t l c=>match P.underlying t,e2 (g l),e2 (g c) with
  |some (.slice e),some l,some c=>match P.info? e,dN P e with
   |some i,some z=>match decide (l<=c)&&Nat.ble (c*(i.bytes+1)) 1099511627776&&Nat.beq z.cells.length i.size,(if c*i.size=0 then[] else ej c z.cells) with
    |true,cs=>match cs.all I.bC with
     |true=>some (.slice b 0 l (.exact c),.cells cs e .own 0 0)
     |false=>none
    |_,_=>none
   |_,_=>none
  |_,_,_=>none
 |.makeMap _ none=>some (.map b,.map [] 0)
 |_=>none
structure DStep where
 i:Nat
 o:Oper
 ek:Nat
 loc:List (Nat×Acc)
def u6(fC:List Nat)(n:Nat)(o:Oper):Nat:=
 o.after.foldl (λs e=>match Region.binds .any e with
  |true=>s|||1<<<e.on|||(nth (n-1-e.on) fC).getD 0
  |false=>s) 0
def ev:List Oper->Nat->List (Nat×Acc)->List Nat->List DStep
 |[],_,_,_=>[]
 |o::l,n,loc,fC=>
  let m:=u6 fC n o
  ⟨n,o,m,loc⟩::ev l (n+1) (kt o n loc) (m::fC)
def hr:List Oper->Nat->List (Nat×Acc)->List (Nat×Acc)
 |[],_,loc=>loc
 |o::l,n,loc=>hr l (n+1) (kt o n loc)
def fL(P:Program)(need:Nat)(ops:Array Oper)(r:aL)(n:Nat)(env:List I)(s:DStep):Option (I×Bool):=
 match iK P need ops s.loc s.o with
 |none=>none
 |some (a,b)=>some (dk n env r a,b)
inductive At where
 |ok (env:List I) (d:List bA) (q:bt) (h:J) (aY:List (Nat×Nat×J))
 |bK (v:I) (env:List I) (d:List bA) (q:bt) (h:J) (aY:List (Nat×Nat×J))
 |fail (hI:String)
def fq(P:Program)(need:Nat)(inR:Bool)(call:aP->List I->J->av)(ops:Array Oper)(r:aL)(cp:Nat):List DStep->List I->List bA->bt->J->List (Nat×Nat×J)->At
 |[],env,d,q,h,aY=>.ok env d q h aY
 |s::rest,env,d,q,h,aY=>
  let gd:=fL P need ops r s.i env s
  let g:=λx=>dk s.i env r (cw P need s.loc x)
  match kindOf P s.o.op with
  |.alloc=>match dO gd with
   |none=>.fail ("guard " ++s.o.pos)
   |some false=>fq P need inR call ops r cp rest (.aK []::env) d q h aY
   |some true=>match iN P s.o.op g (cp+s.i) with
    |some (v,o)=>fq P need inR call ops r cp rest (v::env) d q (h.set (cp+s.i) (some o)) aY
    |none=>.fail ("alloc " ++s.o.pos)
  |.pure=>match dm P inR call gd s.o g d q h with
   |.ok v _ _ _=>fq P need inR call ops r cp rest (v::env) d q h aY
   |.bK _ _ _ _=>.fail ("pure " ++s.o.pos)
   |.fail w=>.fail w
  |.dI=>
   match(match aY with|[]=>true|(e,_,_)::_=>Nat.testBit s.ek e) with
   |false=>.fail ("order " ++s.o.pos)
   |true=>match dm P inR call gd s.o g d q h with
    |.ok v bn q' ak=>fq P need inR call ops r cp rest (v::env) bn q' ak ((s.i,s.ek,h)::aY)
    |.bK v bn q' ak=>match rest.all (λbo=>Nat.testBit bo.ek s.i) with
     |true=>.bK v env bn q' ak ((s.i,s.ek,h)::aY)
     |false=>.fail ("panic " ++s.o.pos)
    |.fail w=>.fail w
def ku(P:Program)(need:Nat)(ops:Array Oper)(r:aL)(n:Nat)(env:List I)(s:DStep)(v:I)(h:J):Bool:=
 match dO (fL P need ops r n env s) with
 |none=>false
 |some false=>true
 |some true=>match ch P s.o (λx=>dk n env r (cw P need s.loc x)) h with
  |.val v' _=>I.beq v' v
  |_=>false
def jB(P:Program)(need:Nat)(ops:Array Oper)(r:aL)(n:Nat)(env:List I)(s:DStep)(v:I):Option Nat->J->List (Nat×Nat×J)->Bool
 |dn,h,aY=>
  (match(match dn with|none=>false|some e=>Nat.testBit s.ek e)||(match aY with|[]=>false|(_,m,_)::_=>Nat.testBit m s.i) with
   |true=>true
   |false=>ku P need ops r n env s v h)&&
  (match aY with
   |[]=>true
   |(e,_,ak)::rest=>jB P need ops r n env s v (some e) ak rest)
def jU(P:Program)(need:Nat)(ops:Array Oper)(r:aL)(n:Nat)(env:List I)(last:Option Nat)(h:J)(aY:List (Nat×Nat×J)):List DStep->Bool
 |[]=>true
 |s::rest=>(match Nat.blt s.i n,kindOf P s.o.op with
   |true,.pure=>jB P need ops r n env s ((nth (n-1-s.i) env).getD .bad) last h aY
   |_,_=>true)&&jU P need ops r n env last h aY rest
def ra(P:Program)(need:Nat)(inR:Bool)(call:aP->List I->J->av)(ops:Array Oper)(r:aL)(d:List bA)(q:bt)(h:J):k7:=
 let steps:=ev ops.toList 0 [] []
 match fq P need inR call ops r h.n steps [] d q ⟨h.t,h.n+ops.size⟩ [] with
 |.ok env bn q' ak aY=>match jU P need ops r env.length env none ak aY steps with
  |true=>.ok env bn q' ak
  |false=>.fail "orders"
 |.bK v env bn q' ak aY=>match aY with
  |(e,_,h0)::rest=>match jU P need ops r env.length env (some e) h0 rest steps with
   |true=>.bK v bn q' ak
   |false=>.fail "orders"
  |[]=>.fail "orders"
 |.fail w=>.fail w
def oE(need:Nat)(m:Nat)(env:List I)(gE:aL):List (Nat×Acc)->aL->aL
 |[],r=>r
 |(t,a)::l,r=>
  let r':=oE need m env gE l r
  match Nat.testBit need t with
  |true=>r'.set (fV t) (dk m env gE a)
  |false=>r'
def tg:List (Nat×Acc)->aL->aL
 |[],r=>r
 |(t,_)::l,r=>(tg l r).set (fV t) .bad
def oF(need:Nat)(r:aL)(loc:List (Nat×Acc)):k7->hZ
 |.ok env d q h=>.ok .nrm (oE need env.length env r loc r) d q h
 |.bK v d q h=>.ok (.bK v) (tg loc r) d q h
 |.fail w=>.fail w
def oG(x:hZ)(f:aL->List bA->bt->J->hZ):hZ:=
 match x with
 |.ok .nrm r d q h=>f r d q h
 |x=>x
def nC(f:aL->List bA->bt->J->hZ):Nat->aL->List bA->bt->J->hZ
 |0,_,_,_,_=>.fail "loop fuel"
 |n+1,r,d,q,h=>oG (f r d q h) (nC f n)
def mE(rd:Option Nat)(n:Nat):Nat:=match rd with
 |none=>n+1
 |some _=>n
def u7(need:Nat)(rd:Option Nat)(r:aL)(ps:List Nat)(as b6:Code)(d:List bA)(h:J):Option (List bA×J):=
 match rd with
 |none=>some (.collected h.n::d,(h.push (.defrd (some []))).push (.loop .ready none need r ps as b6 h.n))
 |some mF=>match h.get mF with
  |some (.loop _ _ _ _ _ _ _ dD)=>some (d,h.push (.loop .ready none need r ps as b6 dD))
  |_=>none
def jV(l:Nat)(r:aL)(d:List bA)(q:bt):av->hZ
 |.ret _ h=>match h.get l with
  |some (.loop st fa fX rg ps as b6 dD)=>match st with
   |.busy=>.fail "rangeFunc: busy"
   |_=>match fa with
    |none=>.ok .nrm r d q (h.set l (some (.loop .exhausted fa fX rg ps as b6 dD)))
    |some .ret=>.ok .ret r d q (h.set l (some (.loop .exhausted fa fX rg ps as b6 dD)))
    |some (.exit id)=>.ok (.exit id) r d q (h.set l (some (.loop .exhausted fa fX rg ps as b6 dD)))
    |_=>.fail "rangeFunc: goto"
  |_=>.fail "rangeFunc: loop gone"
 |.bK v h=>.ok (.bK v) r d q h
 |.fail w=>.fail w
def da(P:Program)(need:Nat)(rd:Option Nat)(call:aP->List I->J->av):Code->aL->List bA->bt->J->hZ
 |.skip,r,d,q,h=>.ok .nrm r d q h
 |.region id ops draw,r,d,q,h=>
  match draw with
  |false=>
   let pl:=nB P need ops
   oF need r pl.loc (iL P need rd.isSome call r pl.steps [] d q h)
  |true=>oF need r (hr ops.toList 0 []) (ra P need rd.isSome call ops r d q h)
 |.seq a b,r,d,q,h=>oG (da P need rd call a r d q h) (da P need rd call b)
 |.cond c a b,r,d,q,h=>match dk 0 [] r (cw P need [] c) with
  |.bool true=>da P need rd call a r d q h
  |.bool false=>da P need rd call b r d q h
  |_=>.fail "cond"
 |.block id b,r,d,q,h=>match da P need rd call b r d q h with
  |.ok (.exit i) r' bn q' ak=>if i=id then .ok .nrm r' bn q' ak else .ok (.exit i) r' bn q' ak
  |x=>x
 |.loop b,r,d,q,h=>nC (da P need rd call b) 100000 r d q h
 |.exit id,r,d,q,h=>.ok (.exit id) r d q h
 |.ret,r,d,q,h=>.ok .ret r d q h
 |.label _,r,d,q,h=>.ok .nrm r d q h
 |.goto l,r,d,q,h=>.fail "goto"
 |.scope b,r,d,q,h=>da P need rd call b r d q h
 |.rangeFunc f params assign body,r,d,q,h=>
  match u7 need rd r params.toList assign body d h with
  |none=>.fail "rangeFunc"
  |some (bn,aa)=>
   match q_ (dk 0 [] r (cw P need [] f)) [.bQ (mE rd h.n)] aa with
   |.call g args ad=>jV (mE rd h.n) r bn q (call (.fn g) args ad)
   |.bQ bT args ad=>jV (mE rd h.n) r bn q (call (.bQ bT) args ad)
   |_=>.fail "rangeFunc: no function"
 |.refuse w,_,_,_,_=>.fail ("refuse " ++w)
def bit(t:Nat):Nat:=1<<<t
def Ev:List Oper->Nat->Nat->Nat
 |[],_,acc=>acc
 |o::l,written,acc=>
  let acc:=o.op.operands.foldl (λa x=>match x with
   |.tmp t=>if Nat.testBit written t then a else a|||bit t
   |_=>a) acc
  Ev l (match o.dst with|some t=>written|||bit t|none=>written) acc
def Ew:Operand->Nat
 |.tmp t=>bit t
 |_=>0
def pN:Code->Nat->Nat
 |.region _ ops _,acc=>Ev ops.toList 0 acc
 |.seq a b,acc=>pN b (pN a acc)
 |.cond c a b,acc=>pN b (pN a (acc|||Ew c))
 |.block _ b,acc|.loop b,acc|.scope b,acc=>pN b acc
 |.rangeFunc f ps a b,acc=>pN b (pN a (acc|||Ew f|||ps.foldl (λa t=>a|||bit t) 0))
 |_,acc=>acc
def dx(fn:Func):Nat:=
 let rs:=fn.results.foldl (λa r=>match r with|.tmp t=>a|||bit t|.cell t _=>a|||bit t) 0
 match fn.body with
 |some c=>pN c rs
 |none=>rs
def mG:Nat->List I->aL->aL
 |_,[],r=>r
 |i,v::l,r=>mG (i+1) l (r.set (fV i) v)
def pO(P:Program)(need:Nat)(r:aL)(h:J)(x:ResultVar):Option I:=
 match x with
 |.tmp t=>match Nat.testBit need t with
  |true=>some (r.get (fV t))
  |false=>none
 |.cell t ty=>match Nat.testBit need t with
  |true=>match r.get (fV t),k6 P ty,cV P ty with
   |.ptr b off,some true,some n=>(match loadCells h b off n with|some cs=>some (.agg cs)|none=>none)
   |.ptr b off,some false,_=>ay h b off
   |_,_,_=>none
  |false=>none
def lR(f:ResultVar->Option I):List ResultVar->Option (List I)
 |[]=>some []
 |x::l=>match f x,lR f l with
  |some v,some vs=>some (v::vs)
  |_,_=>none
def oH(P:Program)(need:Nat)(fn:Func)(r:aL)(h:J):Option I:=
 match lR (pO P need r h) fn.results.toList with
 |some [v]=>some v
 |some vs=>some (.aK vs)
 |none=>none
def mH(c:Nat):List UInt8->Nat->Int
 |[],_=>-1
 |b::l,i=>match Nat.beq b.toNat c with
  |true=>Int.ofNat i
  |false=>mH c l (i+1)
def th(P:Program)(fn:Func)(name:String)(args:List I)(h:J):Option (I×J):=
 match args with
 |[.int .i64 (.ofNat n)]=>if name= "internal/bytealg.MakeNoZero" then
    (match fn.resultTypes[0]? with
    |some t=>match P.underlying t with
     |some (.slice e)=>match Nat.ble n 1099511627776 with
      |true=>some (.slice h.n 0 n (.aN 1),h.push (.cells (List.replicate n .bad) e .aN 0 0))
      |false=>none
     |_=>none
    |none=>none) else none
 |[x]=>if name= "internal/abi.NoEscape" then some (x,h) else
  if name= "maps.clone" then(match x with
   |.iface t (.map r)=>match h.get r with
    |some (.map es c)=>some (.iface t (.map h.n),h.push (.map es c))
    |_=>none
   |_=>none) else none
 |[.str s,.int .u8 (.ofNat c)]=>if name= "internal/bytealg.IndexByteString" then
    (match Nat.blt c 256 with
    |true=>some (.int .i64 (mH c s 0),h)
    |false=>none) else none
 |_=>none
def ti:Option I->bt
 |some v=>.act v
 |none=>.none
def u9(q:bt)(dP:Option I):Option I:=match q with
 |.done _=>none
 |_=>dP
def k8(P:Program)(call:aP->List I->J->av)(fn:Func)(args:List I)(q:bt)(h:J):hZ:=
 match fn.body with
 |some c=>match Nat.ble args.length fn.ntmps with
  |true=>da P (dx fn) none call c (mG 0 args .leaf) [] q h
  |false=>.fail "too many arguments"
 |none=>.fail "no body"
def Ex(P:Program)(fn:Func)(dP:Option I):hZ->Option (Option I×J)
 |.ok e r d q h=>match(match e with|.nrm=>true|.ret=>true|_=>false),d,oH P (dx fn) fn r h with
  |true,[],some _=>some (u9 q dP,h)
  |_,_,_=>none
 |.fail _=>none
def iO(P:Program)(call:aP->List I->J->av)(need:Nat)(fn:Func)(r:aL):Nat->Option I->List bA->J->av
 |0,_,_,_=>.fail "defers"
 |k+1,dP,aS,h=>match aS with
  |[]=>match dP with
   |none=>match oH P need fn r h with
    |some v=>.ret v h
    |none=>.fail "results"
   |some v=>.bK v h
  |.collected b::aS=>match h.get b with
   |some (.defrd (some cs))=>iO P call need fn r k dP (cs++aS) (h.set b (some (.defrd none)))
   |_=>.fail "collected"
  |.call g args::aS=>
   match P.funcs[g]? with
   |some fH=>match Ex P fH dP (k8 P call fH args (ti dP) h) with
    |some (K6,ak)=>iO P call need fn r k K6 aS ak
    |none=>.fail "deferred call"
   |none=>.fail "deferred"
def k9(P:Program)(call:aP->List I->J->av)(fn:Func):hZ->av
 |.ok .nrm r d _ h=>iO P call (dx fn) fn r 100 none d h
 |.ok .ret r d _ h=>iO P call (dx fn) fn r 100 none d h
 |.ok (.bK v) r d _ h=>iO P call (dx fn) fn r 100 (some v) d h
 |.ok _ _ _ _ _=>.fail "exit out of a function"
 |.fail w=>.fail (w++ " < " ++fn.name)
def pP(P:Program)(call:aP->List I->J->av)(f:Nat)(args:List I)(h:J):av:=
 match P.funcs[f]? with
 |none=>.fail "no function"
 |some fn=>
  match fn.body with
  |none=>match th P fn fn.name args h with
   |some (v,ak)=>.ret v ak
   |none=>.fail ("extern " ++fn.name)
  |some _=>k9 P call fn (k8 P call fn args .none h)
def rb:List Nat->List I->aL->Option aL
 |[],[],r=>some r
 |t::ts,v::vs,r=>rb ts vs (r.set (fV t) v)
 |_,_,_=>none
def tj(l:Nat):hZ->av
 |.ok e _ [] _ h=>match h.get l with
  |some (.loop .busy _ fX rg ps as b6 dD)=>match e with
   |.nrm=>.ret (.bool true) (h.set l (some (.loop .ready none fX rg ps as b6 dD)))
   |.ret=>.ret (.bool false) (h.set l (some (.loop .done (some .ret) fX rg ps as b6 dD)))
   |.exit id=>.ret (.bool false) (h.set l (some (.loop .done (some (.exit id)) fX rg ps as b6 dD)))
   |.bK v=>.bK v h
   |.goto _=>.fail "goto in a round"
  |_=>.fail "round"
 |.ok .. =>.fail "round defers"
 |.fail w=>.fail (w++ " < round")
def xM(P:Program)(call:aP->List I->J->av)(l need:Nat)(b6:Code):hZ->av
 |.ok .nrm r [] _ h=>match h.get l with
  |some (.loop .ready fa fX rg ps xN xO dD)=>tj l (da P need (some l) call b6 r [] .none (h.set l (some (.loop .busy fa fX rg ps xN xO dD))))
  |_=>.fail "round"
 |.ok .. =>.fail "round assign"
 |.fail w=>.fail w
def nD(P:Program)(call:aP->List I->J->av)(l:Nat)(args:List I)(h:J):av:=
 match h.get l with
 |some (.loop .ready _ need rg ps as b6 _)=>
  match rb ps args rg with
  |none=>.fail "yield: arguments"
  |some gE=>xM P call l need b6 (da P need (some l) call as gE [] .none h)
 |_=>.fail "yield"
def e4(P:Program)(intr:Nat->List I->J->Option (I×J)):Nat->aP->List I->J->av
 |0,_,_,_=>.fail "depth"
 |n+1,.fn f,args,h=>match intr f args h with
  |some (v,ak)=>.ret v ak
  |none=>pP P (e4 P intr n) f args h
 |n+1,.bQ l,args,h=>nD P (e4 P intr n) l args h
def h1(n:Nat):J:=⟨.leaf,n⟩
def kx(ops:Array Oper)(o:Oper):List Nat:=
 o.dst.toList++(o.op.operands.toList.filterMap λ|.tmp t=>some t|_=>none)++(match o.guard with|some (j,_)=>((ops[j]?).bind (·.dst)).toList|none=>[])
def mI(o:Oper)(i:Nat):Bool:=o.after.toList.all λe=>!Region.binds .any e||Nat.blt e.on i
def xP(ops:Array Oper)(s:DStep):List DStep->Bool
 |[]=>true
 |bo::l=>(match(match s.o.dst with|some t=>(kx ops bo.o).contains t|none=>false)||(match bo.o.dst with|some t=>(kx ops s.o).contains t|none=>false) with
   |true=>Nat.testBit bo.ek s.i
   |false=>true)&&xP ops s l
def oI(ops:Array Oper):List DStep->Bool
 |[]=>true
 |s::l=>mI s.o s.i&&xP ops s l&&oI ops l
def ht(b4:Nat):Code->Bool
 |.region _ ops draw=>ops.toList.all (λo=>match o.dst with|some t=>Nat.blt t b4|none=>true)&&(!draw||oI ops (ev ops.toList 0 [] []))
 |.seq a b=>ht b4 a&&ht b4 b
 |.cond _ a b=>ht b4 a&&ht b4 b
 |.block _ b|.loop b|.scope b=>ht b4 b
 |.rangeFunc _ ps a b=>ps.toList.all (λt=>Nat.blt t b4)&&ht b4 a&&ht b4 b
 |_=>true
end aw
namespace aw
open Go
def gZ.num:gZ->Nat
 |.here=>0
 |.l p=>2*p.num+1
 |.r p=>2*p.num+2
theorem Ey:∀(f n:Nat),n<=f->(uV f n).num=n
 |0,n,h=>by
  obtain rfl:n=0:=by omega
  rfl
 |f+1,0,_=>rfl
 |f+1,m+1,h=>by
  have e:Nat.mod m 2=m %2:=rfl
  have ax:Nat.div m 2=m/2:=rfl
  have bg:=Ey f (m/2) (by omega)
  simp only[uV,e,ax]
  rcases Nat.mod_two_eq_zero_or_one m with h0|aa
  · simp only[h0,gZ.num,bg];omega
  · simp only[aa,gZ.num,bg];omega
theorem xQ(n:Nat):(fV n).num=n:=Ey n n (Nat.le_refl n)
theorem K7{m n:Nat}(h:fV m=fV n):m=n:=by rw[<-xQ m,<-xQ n,h]
theorem aL.pQ(l:aL)(v:I)(r:aL):aL.Ao l v r=.node l v r:=by cases l<;>rfl
theorem aL.pR(l:aL)(v:I)(r:aL):aL.Ap l v r=.node l v r:=by cases r<;>rfl
theorem aL.lS(p:gZ):aL.get p .leaf=.bad:=by cases p<;>rfl
theorem aL.u_:∀(p:gZ) (v:I) (t:aL),(aL.set p v t).get p=v
 |.here,v,.leaf=>rfl
 |.here,v,.node .. =>rfl
 |.l p,v,.leaf=>by simp only[aL.set,aL.pQ,aL.get];exact u_ p v _
 |.l p,v,.node l _ _=>by simp only[aL.set,aL.pQ,aL.get];exact u_ p v _
 |.r p,v,.leaf=>by simp only[aL.set,aL.pR,aL.get];exact u_ p v _
 |.r p,v,.node .. =>by simp only[aL.set,aL.pR,aL.get];exact u_ p v _
theorem aL.va:∀(p q:gZ) (v:I) (t:aL),p≠q->(aL.set q v t).get p=t.get p
 |.here,.here,_,_,h=>absurd rfl h
 |.here,.l q,v,.leaf,_=>by simp[aL.set,aL.pQ,aL.get]
 |.here,.l q,v,.node ..,_=>by simp[aL.set,aL.pQ,aL.get]
 |.here,.r q,v,.leaf,_=>by simp[aL.set,aL.pR,aL.get]
 |.here,.r q,v,.node ..,_=>by simp[aL.set,aL.pR,aL.get]
 |.l p,.here,v,.leaf,_=>by simp[aL.set,aL.get,aL.lS]
 |.l p,.here,v,.node ..,_=>by simp[aL.set,aL.get]
 |.r p,.here,v,.leaf,_=>by simp[aL.set,aL.get,aL.lS]
 |.r p,.here,v,.node ..,_=>by simp[aL.set,aL.get]
 |.l p,.l q,v,.leaf,h=>by
  simp only[aL.set,aL.pQ,aL.get]
  rw[va p q v _ (λe=>h (by rw[e])),aL.lS]
 |.l p,.l q,v,.node ..,h=>by
  simp only[aL.set,aL.pQ,aL.get]
  exact va p q v _ (λe=>h (by rw[e]))
 |.r p,.r q,v,.leaf,h=>by
  simp only[aL.set,aL.pR,aL.get]
  rw[va p q v _ (λe=>h (by rw[e])),aL.lS]
 |.r p,.r q,v,.node ..,h=>by
  simp only[aL.set,aL.pR,aL.get]
  exact va p q v _ (λe=>h (by rw[e]))
 |.l p,.r q,v,.leaf,_=>by simp[aL.set,aL.pR,aL.get,aL.lS]
 |.l p,.r q,v,.node ..,_=>by simp[aL.set,aL.pR,aL.get]
 |.r p,.l q,v,.leaf,_=>by simp[aL.set,aL.pQ,aL.get,aL.lS]
 |.r p,.l q,v,.node ..,_=>by simp[aL.set,aL.pQ,aL.get]
theorem aL.bL(t u:Nat)(v:I)(r:aL):(aL.set (fV u) v r).get (fV t)=if t=u then v else r.get (fV t):=by
 by_cases h:t=u
 · subst h;simp[aL.u_]
 · rw[if_neg h];exact aL.va _ _ _ _ (λe=>h (K7 e))
theorem eb.lS(n:Nat):eb.get .leaf n=none:=rfl
theorem eb.bL:∀(f:Nat) (t:eb) (n m:Nat) (x:Option ca),n<f->(eb.jy f t n x).get m=if m=n then x else t.get m
 |0,_,n,_,_,h=>by omega
 |f+1,.leaf,0,m,x,_=>by
  cases m with
  |zero=>simp[eb.jy,eb.get]
  |succ m=>
   simp only[eb.jy,eb.get]
   have e:Nat.mod m 2=m %2:=rfl
   rcases Nat.mod_two_eq_zero_or_one m with h|h<;>simp[e,h]
 |f+1,.node l v r,0,m,x,_=>by
  cases m with
  |zero=>simp[eb.jy,eb.get]
  |succ m=>simp[eb.jy,eb.get]
 |f+1,.leaf,n+1,m,x,aG=>by
  have e (k:Nat):Nat.mod k 2=k %2:=rfl
  have ax (k:Nat):Nat.div k 2=k/2:=rfl
  have bg:=λj=>bL f .leaf (n/2) j x (by omega)
  rcases Nat.mod_two_eq_zero_or_one n with h|h
  · simp only[eb.jy,e,h,ax]
    cases m with
    |zero=>simp[eb.get]
    |succ m=>
     simp only[eb.get,e,ax]
     rcases Nat.mod_two_eq_zero_or_one m with g|g
     · simp only[g,bg,eb.lS]
       have:(m/2=n/2)<->(m+1=n+1):=by omega
       simp only[this]
     · simp only[g,eb.lS]
       rw[if_neg (by omega)]
  · simp only[eb.jy,e,h,ax]
    cases m with
    |zero=>simp[eb.get]
    |succ m=>
     simp only[eb.get,e,ax]
     rcases Nat.mod_two_eq_zero_or_one m with g|g
     · simp only[g,eb.lS]
       rw[if_neg (by omega)]
     · simp only[g,bg,eb.lS]
       have:(m/2=n/2)<->(m+1=n+1):=by omega
       simp only[this]
 |f+1,.node l v r,n+1,m,x,aG=>by
  have e (k:Nat):Nat.mod k 2=k %2:=rfl
  have ax (k:Nat):Nat.div k 2=k/2:=rfl
  have K8:=λj=>bL f l (n/2) j x (by omega)
  have xR:=λj=>bL f r (n/2) j x (by omega)
  rcases Nat.mod_two_eq_zero_or_one n with h|h
  · simp only[eb.jy,e,h,ax]
    cases m with
    |zero=>simp[eb.get]
    |succ m=>
     simp only[eb.get,e,ax]
     rcases Nat.mod_two_eq_zero_or_one m with g|g
     · simp only[g,K8]
       have:(m/2=n/2)<->(m+1=n+1):=by omega
       simp only[this]
     · simp only[g]
       rw[if_neg (by omega)]
  · simp only[eb.jy,e,h,ax]
    cases m with
    |zero=>simp[eb.get]
    |succ m=>
     simp only[eb.get,e,ax]
     rcases Nat.mod_two_eq_zero_or_one m with g|g
     · simp only[g]
       rw[if_neg (by omega)]
     · simp only[g,xR]
       have:(m/2=n/2)<->(m+1=n+1):=by omega
       simp only[this]
theorem J.bL(h:J)(b c:Nat)(o:Option ca):(h.set b o).get c=if c=b then o else h.get c:=
 eb.bL _ _ _ _ _ (Nat.lt_succ_self b)
theorem J.ec(h:J)(c:Nat)(o:ca):(h.push o).get c=if c=h.n then some o else h.get c:=
 eb.bL _ _ _ _ _ (Nat.lt_succ_self _)
@[simp] theorem J.tk (h:J) (b:Nat) (o:Option ca):(h.set b o).n=h.n:=rfl
@[simp] theorem J.lT (h:J) (o:ca):(h.push o).n=h.n+1:=rfl
structure dL where
 a5:Nat
 base:Nat
 size:Nat
abbrev a8:=Nat->Option dL
def en(μ aH:a8):Prop:=∀b i,μ b=some i->aH b=some i
theorem en.refl(μ:a8):en μ μ:=λ_ _ h=>h
theorem en.trans{μ aH Ez:a8}(h:en μ aH)(ak:en aH Ez):en μ Ez:=λb i e=>ak b i (h b i e)
def Au(i:dL)(off len:Nat):cf->Value->Prop
 |.exact c,v=>v=.slice (some ⟨i.a5,i.base+off,none⟩) len c
 |.aN fA,v=>∃c,v=.slice (some ⟨i.a5,i.base+off,none⟩) len c/\len<=c/\off+c*fA=i.size
 |.dead,v=>len=0/\∃a c,v=.slice (some a) 0 c
mutual
def a1(μ:a8):I->Value->Prop
 |.bad,_=>True
 |.bool b,v=>v=.bool b
 |.int k n,v=>v=.int k n
 |.str s,v=>∃t,v=.string t/\t.data.toList=s
 |.bd,v=>v=.pointer none
 |.ptr b off,v=>∃i,μ b=some i/\v=.pointer (some ⟨i.a5,i.base+off,none⟩)
 |.a0,v=>v=.slice none 0 0
 |.slice b off len cap,v=>∃i,μ b=some i/\Au i off len cap v
 |.gm,v=>v=.map none
 |.map r,v=>∃i,μ r=some i/\v=.map (some i.a5)
 |.eN,v=>v=.nilFunc
 |.fn f first aF,v=>∃b2 cs,v=.func (.func f) ⟨b2⟩ ⟨cs⟩/\bN μ first b2/\bN μ aF cs
 |.bQ l,v=>∃i,μ l=some i/\v=.func (.yield i.a5) ⟨[]⟩ ⟨[]⟩
 |.dW,v=>v=.nilIface
 |.iface t x,v=>∃y,v=.iface t y/\a1 μ x y
 |.agg cs,v=>∃l,v=.agg ⟨l⟩/\bN μ cs l
 |.aK vs,v=>∃l,v=.tuple ⟨l⟩/\bN μ vs l
def bN(μ:a8):List I->List Value->Prop
 |[],l=>l=[]
 |a::as,l=>∃v vs,l=v::vs/\a1 μ a v/\bN μ as vs
end
mutual
theorem a1.mono{μ aH:a8}(hle:en μ aH):∀(a:I) (v:Value),a1 μ a v->a1 aH a v
 |.bad,_,_=>trivial
 |.bool _,_,h=>h
 |.int _ _,_,h=>h
 |.str _,_,h=>h
 |.bd,_,h=>h
 |.ptr b off,_,⟨i,h,e⟩=>⟨i,hle _ _ h,e⟩
 |.a0,_,h=>h
 |.slice b off len cap,_,⟨i,h,e⟩=>⟨i,hle _ _ h,e⟩
 |.gm,_,h=>h
 |.map r,_,⟨i,h,e⟩=>⟨i,hle _ _ h,e⟩
 |.eN,_,h=>h
 |.fn f first aF,_,⟨b2,cs,e,aa,ad⟩=>⟨b2,cs,e,bN.mono hle _ _ aa,bN.mono hle _ _ ad⟩
 |.bQ l,_,⟨i,h,e⟩=>⟨i,hle _ _ h,e⟩
 |.dW,_,h=>h
 |.iface t x,_,⟨y,e,h⟩=>⟨y,e,a1.mono hle _ _ h⟩
 |.agg cs,_,⟨l,e,h⟩=>⟨l,e,bN.mono hle _ _ h⟩
 |.aK cs,_,⟨l,e,h⟩=>⟨l,e,bN.mono hle _ _ h⟩
theorem bN.mono{μ aH:a8}(hle:en μ aH):∀(as:List I) (vs:List Value),bN μ as vs->bN aH as vs
 |[],_,h=>h
 |a::as,_,⟨v,vs,e,aa,ad⟩=>⟨v,vs,e,a1.mono hle _ _ aa,bN.mono hle _ _ ad⟩
end
mutual
theorem iP(μ:a8):∀v:Value,a1 μ (mD v) v
 |.bool b=>rfl
 |.int k n=>rfl
 |.string s=>⟨s,rfl,rfl⟩
 |.pointer none=>rfl
 |.pointer (some _)=>trivial
 |.slice none 0 0=>rfl
 |.slice none 0 (_+1)=>trivial
 |.slice none (_+1) _=>trivial
 |.slice (some _) _ _=>trivial
 |.map none=>rfl
 |.map (some _)=>trivial
 |.nilFunc=>rfl
 |.nilIface=>rfl
 |.agg ⟨cs⟩=>⟨cs,rfl,Av μ cs⟩
 |.tuple ⟨cs⟩=>⟨cs,rfl,Av μ cs⟩
 |.float _ _=>trivial
 |.complex _ _ _=>trivial
 |.chan _=>trivial
 |.func _ _ _=>trivial
 |.iface _ _=>trivial
theorem Av(μ:a8):∀vs:List Value,bN μ (xy vs) vs
 |[]=>rfl
 |v::vs=>⟨v,vs,rfl,iP μ v,Av μ vs⟩
end
theorem bN.length{μ:a8}:∀{as:List I} {vs:List Value},bN μ as vs->as.length=vs.length
 |[],_,h=>by cases h;rfl
 |a::as,_,⟨v,vs,e,_,ad⟩=>by subst e;simp[bN.length ad]
theorem bN.append{μ:a8}:∀{as bs:List I} {vs us:List Value},bN μ as vs->bN μ bs us->bN μ (as++bs) (vs++us)
 |[],_,_,_,h,ak=>by cases h;exact ak
 |a::as,_,_,_,⟨v,vs,e,aa,ad⟩,ak=>by subst e;exact⟨v,vs++_,rfl,aa,bN.append ad ak⟩
theorem bN.get{μ:a8}:∀{as:List I} {vs:List Value} (_:bN μ as vs) {j:Nat} {a:I},as[j]? =some a->∃v,vs[j]? =some v/\a1 μ a v
 |[],_,_,j,a,h=>by simp at h
 |x::as,_,⟨v,vs,e,aa,ad⟩,0,a,h=>by
  subst e;simp at h;subst h;exact⟨v,rfl,aa⟩
 |x::as,_,⟨v,vs,e,aa,ad⟩,j+1,a,h=>by
  subst e;simp at h;simpa using bN.get ad h
theorem bN.vb{μ:a8}:∀{as:List I} {vs:List Value},as.length=vs.length->(∀(j:Nat) (a:I),as[j]? =some a->∃v,vs[j]? =some v/\a1 μ a v)->bN μ as vs
 |[],[],_,_=>rfl
 |[],_::_,h,_=>by simp at h
 |_::_,[],h,_=>by simp at h
 |a::as,v::vs,h,ah=>by
  refine⟨v,vs,rfl,?_,bN.vb (by simpa using h) λj x ab=>?_⟩
  · obtain⟨u,hu,r⟩:=ah 0 a rfl
    simp at hu;subst hu;exact r
  · simpa using ah (j+1) x (by simpa using ab)
theorem bN.map{μ:a8}{re:Type}(g:re->I)(b7:re->Value)(h:∀x,a1 μ (g x) (b7 x)):∀l:List re,bN μ (l.map g) (l.map b7)
 |[]=>rfl
 |x::l=>⟨_,_,rfl,h x,bN.map g b7 h l⟩
theorem a1.cells{μ:a8}{a:I}{v:Value}(h:a1 μ a v)(af:a≠ .bad):bN μ a.cells v.cells.toList:=by
 cases a with
 |bad=>exact absurd rfl af
 |agg cs=>obtain⟨l,rfl,an⟩:=h;exact an
 |aK vs=>obtain⟨l,rfl,an⟩:=h;exact⟨_,_,rfl,⟨l,rfl,an⟩,rfl⟩
 |bool b=>cases h;exact⟨_,_,rfl,rfl,rfl⟩
 |int k n=>cases h;exact⟨_,_,rfl,rfl,rfl⟩
 |str s=>obtain⟨t,rfl,e⟩:=h;exact⟨_,_,rfl,⟨t,rfl,e⟩,rfl⟩
 |bd=>cases h;exact⟨_,_,rfl,rfl,rfl⟩
 |ptr b off=>obtain⟨i,e,rfl⟩:=h;exact⟨_,_,rfl,⟨i,e,rfl⟩,rfl⟩
 |a0=>cases h;exact⟨_,_,rfl,rfl,rfl⟩
 |slice b off len cap=>
  obtain⟨i,e,ag⟩:=h
  have:v.cells=#[v]:=by
   cases cap with
   |exact c=>cases ag;rfl
   |aN fA=>obtain⟨c,rfl,_⟩:=ag;rfl
   |dead=>obtain⟨_,a,c,rfl⟩:=ag;rfl
  rw[this];exact⟨_,_,rfl,⟨i,e,ag⟩,rfl⟩
 |gm=>cases h;exact⟨_,_,rfl,rfl,rfl⟩
 |map r=>obtain⟨i,e,rfl⟩:=h;exact⟨_,_,rfl,⟨i,e,rfl⟩,rfl⟩
 |eN=>cases h;exact⟨_,_,rfl,rfl,rfl⟩
 |fn f a b=>obtain⟨b2,cs,rfl,aa,ad⟩:=h;exact⟨_,_,rfl,⟨b2,cs,rfl,aa,ad⟩,rfl⟩
 |bQ l=>obtain⟨i,e,rfl⟩:=h;exact⟨_,_,rfl,⟨i,e,rfl⟩,rfl⟩
 |dW=>cases h;exact⟨_,_,rfl,rfl,rfl⟩
 |iface t x=>obtain⟨y,rfl,aU⟩:=h;exact⟨_,_,rfl,⟨y,rfl,aU⟩,rfl⟩
theorem a1.vc{μ:a8}{a:I}{v:Value}(h:a1 μ a v)(ag:a.bC=true):v.oneCell'=true:=by
 cases a with
 |bad=>simp[I.bC] at ag
 |agg cs=>simp[I.bC] at ag
 |aK vs=>simp[I.bC] at ag
 |bool b=>cases h;rfl
 |int k n=>cases h;rfl
 |str s=>obtain⟨t,rfl,e⟩:=h;rfl
 |bd=>cases h;rfl
 |ptr b off=>obtain⟨i,e,rfl⟩:=h;rfl
 |a0=>cases h;rfl
 |slice b off len cap=>
  obtain⟨i,e,ag⟩:=h
  cases cap with
  |exact c=>cases ag;rfl
  |aN fA=>obtain⟨c,rfl,_⟩:=ag;rfl
  |dead=>obtain⟨_,a,c,rfl⟩:=ag;rfl
 |gm=>cases h;rfl
 |map r=>obtain⟨i,e,rfl⟩:=h;rfl
 |eN=>cases h;rfl
 |fn f a b=>obtain⟨b2,cs,rfl,aa,ad⟩:=h;rfl
 |bQ l=>obtain⟨i,e,rfl⟩:=h;rfl
 |dW=>cases h;rfl
 |iface t x=>obtain⟨y,rfl,aU⟩:=h;rfl
def hJ(need:Nat)(μ:a8)(r:aL)(bU:Array Value):Prop:=∀t,Nat.testBit need t=true->a1 μ (r.get (fV t)) (bU.getD t undef)
theorem hJ.mono{need:Nat}{μ aH:a8}{r:aL}{bU:Array Value}(hle:en μ aH)(h:hJ need μ r bU):hJ need aH r bU:=λt aQ=>(h t aQ).mono hle
inductive rf(μ:a8):bA->Deferred->Prop where
 |call (f:Nat) (args:List I) (cap vs:List Value) (h:bN μ args (vs++cap)):rf μ (.call f args) {target:=.fn (.func f) ⟨cap⟩,args:=⟨vs⟩}
 |collected (r:Nat) (i:dL) (h:μ r=some i):rf μ (.collected r) {target:=.collected i.a5,args:=#[]}
theorem rf.mono{μ aH:a8}(hle:en μ aH){a:bA}{d:Deferred}(h:rf μ a d):rf aH a d:=by
 cases h with
 |call f args cap vs h=>exact .call f args cap vs (h.mono hle)
 |collected r i h=>exact .collected r i (hle _ _ h)
def fI(μ:a8):List bA->List Deferred->Prop
 |[],l=>l=[]
 |a::as,l=>∃d aS,l=d::aS/\rf μ a d/\fI μ as aS
theorem fI.mono{μ aH:a8}(hle:en μ aH):∀{as:List bA} {aS:List Deferred},fI μ as aS->fI aH as aS
 |[],_,h=>h
 |_::_,_,⟨d,aS,e,aa,ad⟩=>⟨d,aS,e,aa.mono hle,fI.mono hle ad⟩
theorem fI.append{μ:a8}:∀{as bs:List bA} {aS es:List Deferred},fI μ as aS->fI μ bs es->fI μ (as++bs) (aS++es)
 |[],_,_,_,h,ak=>by cases h;exact ak
 |_::_,_,_,_,⟨d,aS,e,aa,ad⟩,ak=>by subst e;exact⟨d,aS++_,rfl,aa,fI.append ad ak⟩
def tl(μ:a8)(e:e1)(m:MapEntry):Prop:=a1 μ e.key m.key/\a1 μ e.val m.val/\e.born=m.born
def fb(μ:a8):List e1->List MapEntry->Prop
 |[],l=>l=[]
 |e::es,l=>∃m ms,l=m::ms/\tl μ e m/\fb μ es ms
theorem tl.mono{μ aH:a8}(hle:en μ aH){e:e1}{m:MapEntry}(h:tl μ e m):tl aH e m:=⟨h.1.mono hle,h.2.1.mono hle,h.2.2⟩
theorem fb.mono{μ aH:a8}(hle:en μ aH):∀{es:List e1} {ms:List MapEntry},fb μ es ms->fb aH es ms
 |[],_,h=>h
 |_::_,_,⟨m,ms,e,aa,ad⟩=>⟨m,ms,e,aa.mono hle,fb.mono hle ad⟩
def xS(μ:a8)(cs:List I)(c:Array Value)(base:Nat):Prop:=∀(j:Nat) (v:I),cs[j]? =some v->∃u,c[base+j]? =some u/\a1 μ v u
def Aw(k:fB)(cs:List I)(i:dL)(a9 ae eS eT:Nat):Prop:=match k with
 |.own=>i.base=0/\i.size=cs.length/\eS=a9/\eT=ae
 |.aN=>cs.length<=i.size/\∀j,j<i.size->eS<=i.base+j->i.base+j<eT->a9<=j/\j<ae
 |.ro=>True
 |.fz=>True
def lU(μ:a8)(o:ca)(i:dL)(w:World):Prop:=match o with
 |.cells cs el k a9 ae=>∃c eS eT,w.heap[i.a5]? =some (.cells c el (eS,eT))/\xS μ cs c i.base/\i.base+i.size=c.size/\Aw k cs i a9 ae eS eT
 |.map es clock=>∃ents,w.heap[i.a5]? =some (.map ⟨ents⟩ clock)/\fb μ es ents
 |.nw s pos=>i.base=0/\∃full,w.heap[i.a5]? =some (.stringIter full pos)/\full.data.toList.drop pos=s
 |.mapIter none since seen last=>i.base=0/\w.heap[i.a5]? =some (.mapIter none since ⟨seen⟩ last)
 |.mapIter (some m) since seen last=>i.base=0/\∃j,μ m=some j/\w.heap[i.a5]? =some (.mapIter (some j.a5) since ⟨seen⟩ last)
 |.loop st fa need k5 params as b6 dD=>∃bU gF fn,μ dD=some gF/\w.heap[i.a5]? =some (.loop {state:=st,pending:=fa,fn:=fn,tmps:=bU,params:=⟨params⟩,assign:=as,body:=b6,defers:=gF.a5})/\hJ need μ k5 bU/\ht bU.size as=true/\ht bU.size b6=true/\∀t∈params,t<bU.size
 |.defrd none=>w.heap[i.a5]? =some (.deferred none)
 |.defrd (some aS)=>∃l,w.heap[i.a5]? =some (.deferred (some l))/\fI μ aS l
 |.raw o=>i.base=0/\w.heap[i.a5]? =some o
theorem lU.mono{μ aH:a8}(hle:en μ aH){o:ca}{i:dL}{w w':World}(hw:w'.heap[i.a5]? =w.heap[i.a5]?)(h:lU μ o i w):lU aH o i w':=by
 cases o with
 |cells cs el k a9 ae=>
  obtain⟨c,eS,eT,aa,ad,ar⟩:=h
  exact⟨c,eS,eT,hw.trans aa,λj v e=>let⟨u,hu,r⟩:=ad j v e;⟨u,hu,r.mono hle⟩,ar⟩
 |map es clock=>obtain⟨ents,aa,ad⟩:=h;exact⟨ents,hw.trans aa,ad.mono hle⟩
 |nw s pos=>obtain⟨h0,full,aa,ad⟩:=h;exact⟨h0,full,hw.trans aa,ad⟩
 |mapIter m since seen last=>
  cases m with
  |none=>exact⟨h.1,hw.trans h.2⟩
  |some m=>obtain⟨h0,j,aa,ad⟩:=h;exact⟨h0,j,hle _ _ aa,hw.trans ad⟩
 |loop st fa fn k5 params as b6 dD=>obtain⟨bU,gF,Ax,aa,ad,ar,aM⟩:=h;exact⟨bU,gF,Ax,hle _ _ aa,hw.trans ad,ar.mono hle,aM⟩
 |defrd calls=>
  cases calls with
  |none=>exact hw.trans h
  |some aS=>obtain⟨l,aa,ad⟩:=h;exact⟨l,hw.trans aa,ad.mono hle⟩
 |raw o=>exact⟨h.1,hw.trans h.2⟩
def ca.lV:ca->Bool
 |.cells _ _ .ro _ _=>true
 |.raw _=>true
 |_=>false
structure bc(μ:a8)(H:J)(w:World):Prop where
 rel:∀b o i,H.get b=some o->μ b=some i->lU μ o i w
 inj:∀b c i j,H.get b≠none->(∃o,H.get c=some o/\o.lV=false)->μ b=some i->μ c=some j->i.a5=j.a5->b=c
 lt:∀b i,μ b=some i->b<H.n/\i.a5<w.heap.size
 bound:∀b,H.n<=b->H.get b=none
structure bO(μ:a8)(H:J)(w:World)(aH:a8)(aO:J)(w':World):Prop where
 le:en μ aH
 size:w.heap.size<=w'.heap.size
 n:H.n<=aO.n
 live:∀b,b<H.n->aO.get b≠none->H.get b≠none
 idle:∀b,b<H.n->μ b=none->aO.get b=H.get b
 old:∀r,r<w.heap.size->(∀b i,H.get b≠none->μ b=some i->i.a5≠r)->w'.heap[r]? =w.heap[r]?
 new:∀b i,μ b=none->aH b=some i->H.n<=b/\(w.heap.size<=i.a5\/∃c o j,H.get c=some o/\o.lV=false/\μ c=some j/\j.a5=i.a5)
 ro:∀b o i,H.get b=some o->o.lV=true->μ b=some i->aO.get b=some o/\w'.heap[i.a5]? =w.heap[i.a5]?
 os:w'.os=w.os
 out:w'.output=w.output
 tape:w'.tape=w.tape
 drawn:w.drawn<=w'.drawn
theorem bO.refl(μ:a8)(H:J)(w:World):bO μ H w μ H w where
 le:=en.refl μ
 size:=Nat.le_refl _
 n:=Nat.le_refl _
 live:=λ_ _ h=>h
 idle:=λ_ _ _=>rfl
 old:=λ_ _ _=>rfl
 new:=λb i h ak=>by rw[h] at ak;cases ak
 ro:=λ_ _ _ h _ _=>⟨h,rfl⟩
 os:=rfl
 out:=rfl
 tape:=rfl
 drawn:=Nat.le_refl _
theorem bO.trans{μ fD xU:a8}{H H1 bl:J}{w dp cC:World}(ah:bc μ H w)(ky:bc fD H1 dp)(h:bO μ H w fD H1 dp)(ak:bO fD H1 dp xU bl cC):bO μ H w xU bl cC where
 le:=h.le.trans ak.le
 size:=Nat.le_trans h.size ak.size
 n:=Nat.le_trans h.n ak.n
 live:=λb af an=>h.live b af (ak.live b (Nat.lt_of_lt_of_le af h.n) an)
 idle:=λb af hm=>by
  rw[<-h.idle b af hm]
  refine ak.idle b (Nat.lt_of_lt_of_le af h.n) ?_
  cases aa:fD b with
  |none=>rfl
  |some i=>exact absurd (h.new b i hm aa).1 (Nat.not_le.2 af)
 old:=λr ai aG=>by
  rw[ak.old r (Nat.lt_of_lt_of_le ai h.size),h.old r ai aG]
  intro b i an hm he
  cases xV:μ b with
  |some j=>
   have:=h.le b j xV
   rw[hm] at this;cases this
   exact aG b i (h.live b (ah.lt b i xV).1 an) xV he
  |none=>
   obtain⟨_,ae|⟨c,o,j,ag,_,aD,jj⟩⟩:=h.new b i xV hm
   · omega
   · exact aG c j (by rw[ag];simp) aD (jj.trans he)
 new:=λb i af dw=>by
  cases aa:fD b with
  |some j=>
   have:=ak.le b j aa
   rw[dw] at this;cases this
   exact h.new b i af aa
  |none=>
   obtain⟨aG,ae|⟨c,o,j,ag,gn,aD,jj⟩⟩:=ak.new b i aa dw
   · exact⟨Nat.le_trans h.n aG,.inl (Nat.le_trans h.size ae)⟩
   · refine⟨Nat.le_trans h.n aG,?_⟩
     cases h0:μ c with
     |some ir=>
      have:=h.le c ir h0
      rw[aD] at this;cases this
      have tm:H.get c≠none:=h.live c (ah.lt c j h0).1 (by rw[ag];simp)
      cases aj:H.get c with
      |none=>exact absurd aj tm
      |some mJ=>
       cases xW:mJ.lV with
       |false=>exact .inr ⟨c,mJ,j,aj,xW,h0,jj⟩
       |true=>
        have:=(h.ro c mJ j aj xW h0).1
        rw[ag] at this;cases this
        rw[gn] at xW;cases xW
     |none=>
      obtain⟨_,ae|⟨c',o',ir,nE,K9,rh,K_⟩⟩:=h.new c j h0 aD
      · exact .inl (jj▸ae)
      · exact .inr ⟨c',o',ir,nE,K9,rh,K_.trans jj⟩
 ro:=λb o i af ai ae=>by
  obtain⟨aa,ad⟩:=h.ro b o i af ai ae
  obtain⟨ar,aM⟩:=ak.ro b o i aa ai (h.le b i ae)
  exact⟨ar,aM.trans ad⟩
 os:=ak.os.trans h.os
 out:=ak.out.trans h.out
 tape:=ak.tape.trans h.tape
 drawn:=Nat.le_trans h.drawn ak.drawn
theorem bc.of_heap{μ:a8}{H:J}{w w':World}(h:bc μ H w)(he:w'.heap=w.heap):bc μ H w' where
 rel:=λb o i af ae=>(h.rel b o i af ae).mono (en.refl μ) (by rw[he])
 inj:=h.inj
 lt:=λb i ae=>by rw[he];exact h.lt b i ae
 bound:=h.bound
theorem bO.of_heap{μ:a8}{H:J}{w w':World}(he:w'.heap=w.heap)(a2:w'.os=w.os)(a6:w'.output=w.output)(aQ:w'.tape=w.tape)(az:w.drawn<=w'.drawn:=by first|exact Nat.le_refl _|exact Nat.le_succ _|assumption):bO μ H w μ H w' where
 le:=en.refl μ
 size:=by rw[he];exact Nat.le_refl _
 n:=Nat.le_refl _
 live:=λ_ _ h=>h
 idle:=λ_ _ _=>rfl
 old:=λ_ _ _=>by rw[he]
 new:=λb i h ak=>by rw[h] at ak;cases ak
 ro:=λ_ _ _ h _ _=>⟨h,by rw[he]⟩
 os:=a2
 out:=a6
 tape:=aQ
 drawn:=az
def fr(μ:a8)(b:Nat)(i:dL):a8:=λc=>if c=b then some i else μ c
theorem fs(μ:a8)(b:Nat)(i:dL):fr μ b i b=some i:=by simp[fr]
theorem gh(μ:a8){b c:Nat}(i:dL)(h:c≠b):fr μ b i c=μ c:=by simp[fr,h]
theorem bc.fresh{μ:a8}{H:J}{w:World}(h:bc μ H w):μ H.n=none:=by
 cases e:μ H.n with
 |none=>rfl
 |some i=>exact absurd (h.lt _ _ e).1 (Nat.lt_irrefl _)
theorem bc.mK{μ:a8}{H:J}{w:World}(h:bc μ H w)(i:dL):en μ (fr μ H.n i):=λb j e=>by
 rw[gh];exact e
 intro af;subst af;rw[h.fresh] at e;cases e
theorem bc.alloc{μ:a8}{H:J}{w:World}(h:bc μ H w)(o:ca)(x:Obj)(sz:Nat)
  (ai:lU (fr μ H.n ⟨w.heap.size,0,sz⟩) o ⟨w.heap.size,0,sz⟩ (w.alloc x)):
  bc (fr μ H.n ⟨w.heap.size,0,sz⟩) (H.push o) (w.alloc x)/\bO μ H w (fr μ H.n ⟨w.heap.size,0,sz⟩) (H.push o) (w.alloc x):=by
 have hle:=h.mK ⟨w.heap.size,0,sz⟩
 have hold:∀r,r<w.heap.size->(w.alloc x).heap[r]? =w.heap[r]? :=λr ai=>by
  simp only[World.alloc,Array.getElem?_push];rw[if_neg (by omega)]
 constructor
 · refine⟨λb ob i af ae=>?_,λb c i j af ag ae aD e=>?_,λb i ae=>?_,λb af=>?_⟩
   · rw[J.ec] at af
     by_cases e:b=H.n
     · rw[if_pos e] at af;subst e;cases af
       rw[fs] at ae;cases ae
       exact ai
     · rw[if_neg e] at af;rw[gh _ _ e] at ae
       exact(h.rel b ob i af ae).mono hle (hold _ (h.lt b i ae).2)
   · by_cases aC:b=H.n
     · by_cases ax:c=H.n
       · rw[aC,ax]
       · subst aC;rw[fs] at ae;cases ae
         rw[gh _ _ ax] at aD
         have:=(h.lt c j aD).2
         simp only at e;omega
     · by_cases ax:c=H.n
       · subst ax;rw[fs] at aD;cases aD
         rw[gh _ _ aC] at ae
         have:=(h.lt b i ae).2
         simp only at e;omega
       · rw[gh _ _ aC] at ae;rw[gh _ _ ax] at aD
         rw[J.ec,if_neg aC] at af
         rw[J.ec,if_neg ax] at ag
         exact h.inj b c i j af ag ae aD e
   · by_cases e:b=H.n
     · subst e;rw[fs] at ae;cases ae;simp
     · rw[gh _ _ e] at ae
       have:=h.lt b i ae
       simp only[J.lT,World.size_alloc];omega
   · simp only[J.lT] at af
     rw[J.ec,if_neg (by omega)];exact h.bound b (by omega)
 · refine⟨hle,by simp,by simp,λb af an=>?_,λb af _=>(by rw[J.ec,if_neg (by omega)]),λr ai _=>hold r ai,λb i af dw=>?_,λb ob i af _ ae=>?_,rfl,rfl,rfl,Nat.le_refl _⟩
   · rw[J.ec,if_neg (by omega)] at an;exact an
   · by_cases e:b=H.n
     · subst e;rw[fs] at dw;cases dw;exact⟨Nat.le_refl _,.inl (Nat.le_refl _)⟩
     · rw[gh _ _ e,af] at dw;cases dw
   · have:=h.lt b i ae
     rw[J.ec,if_neg (by omega)]
     exact⟨af,hold _ this.2⟩
theorem bc.update{μ:a8}{H:J}{w w':World}(h:bc μ H w){b:Nat}{o o':ca}{i:dL}(af:H.get b=some o)(gn:o.lV=false)(ae:μ b=some i)
  (hs:w'.heap.size=w.heap.size)(a2:∀r,r≠i.a5->w'.heap[r]? =w.heap[r]?)(vd:w'.os=w.os)(ve:w'.output=w.output)(Ay:w'.tape=w.tape)(ai:lU μ o' i w')(hdr:w.drawn<=w'.drawn:=by first|exact Nat.le_refl _|assumption):
  bc μ (H.set b (some o')) w'/\bO μ H w μ (H.set b (some o')) w':=by
 have tm:H.get b≠none:=by rw[af];simp
 have oJ:∀c,(H.set b (some o')).get c≠none->H.get c≠none:=λc ag=>by
  rw[J.bL] at ag
  by_cases e:c=b
  · subst e;exact tm
  · rw[if_neg e] at ag;exact ag
 constructor
 · refine⟨λc mL j ag aD=>?_,λc d j k ag az=>h.inj c d j k (oJ c ag) (by
     obtain⟨x,ab,nF⟩:=az
     rw[J.bL] at ab
     by_cases e:d=b
     · subst e;exact⟨o,af,gn⟩
     · rw[if_neg e] at ab;exact⟨x,ab,nF⟩),λc j aD=>by rw[hs];exact h.lt c j aD,λc ag=>?_⟩
   · rw[J.bL] at ag
     by_cases e:c=b
     · subst e;rw[if_pos rfl] at ag;cases ag
       rw[ae] at aD;cases aD;exact ai
     · rw[if_neg e] at ag
       refine(h.rel c mL j ag aD).mono (en.refl μ) (a2 _ λcx=>e (h.inj c b j i (by rw[ag];simp) ⟨o,af,gn⟩ aD ae cx))
   · rw[J.bL,if_neg]
     · exact h.bound c ag
     · intro e;subst e;have:=(h.lt c i ae).1;simp at ag;omega
 · refine⟨en.refl μ,by omega,by simp,λc _ ag=>oJ c ag,λc _ hm=>(by rw[J.bL,if_neg];intro e;subst e;rw[ae] at hm;cases hm),λr ai aG=>a2 r λe=>aG b i tm ae e.symm,λc j aa ad=>(by rw[aa] at ad;cases ad),λc mL j ag pS aD=>?_,vd,ve,Ay,hdr⟩
   have df:c≠b:=by intro e;subst e;rw[af] at ag;cases ag;rw[gn] at pS;cases pS
   refine⟨by rw[J.bL,if_neg df];exact ag,a2 _ λe=>df (h.inj c b j i (by rw[ag];simp) ⟨o,af,gn⟩ aD ae e)⟩
end aw
namespace aw
open Go
theorem add_plain(b o n:Nat):(⟨b,o,none⟩:Addr).add n=⟨b,o+n,none⟩:=by
 unfold Addr.add
 by_cases h:n=0
 · simp[h]
 · simp[h]
theorem oK{α:Type}:∀(n:Nat) (l:List α),nth n l=l[n]?
 |0,[]=>rfl
 |_+1,[]=>rfl
 |0,_::_=>rfl
 |n+1,_::l=>by simpa[nth] using oK n l
theorem lW{α:Type}:∀(n:Nat) (l:List α),g0 n l=l.drop n
 |0,l=>by simp[g0]
 |_+1,[]=>by simp[g0]
 |n+1,_::l=>by simpa[g0] using lW n l
theorem ri:∀(n:Nat) (l r:List I),takeN n l=some r->n<=l.length/\r=l.take n
 |0,l,r,h=>by simp[takeN] at h;subst h;simp
 |_+1,[],r,h=>by simp[takeN] at h
 |n+1,a::l,r,h=>by
  simp only[takeN] at h
  cases e:takeN n l with
  |none=>simp[e] at h
  |some r'=>
   simp[e] at h;subst h
   obtain⟨aa,ad⟩:=ri n l r' e
   simp[ad];omega
theorem xX:∀(n:Nat) (vs cs r:List I),eB n vs cs=some r->
  r.length=cs.length/\(vs≠[]->n+vs.length<=cs.length)/\(∀v∈vs,v.bC=true)/\∀j,r[j]? =if n<=j/\j<n+vs.length then vs[j-n]? else cs[j]?
 |0,[],cs,r,h=>by
  simp[eB] at h;subst h
  refine⟨rfl,λh=>absurd rfl h,λv aB=>(by cases aB),λj=>by rw[if_neg (by simp)]⟩
 |0,_::_,[],r,h=>by simp[eB] at h
 |0,v::vs,c::cs,r,h=>by
  simp only[eB] at h
  cases ag:v.bC with
  |false=>simp[ag] at h
  |true=>
   simp only[ag] at h
   cases e:eB 0 vs cs with
   |none=>simp[e] at h
   |some r'=>
    simp[e] at h;subst h
    obtain⟨aa,ad,ar,aM⟩:=xX 0 vs cs r' e
    refine⟨by simp[aa],λ_=>?_,λx ab=>?_,λj=>?_⟩
    · cases vs with
      |nil=>simp
      |cons a l=>have:=ad (by simp);simp at this⊢;omega
    · cases ab with
      |head=>exact ag
      |tail _ ab=>exact ar x ab
    · cases j with
      |zero=>simp
      |succ j=>simpa using aM j
 |n+1,[],cs,r,h=>by
  simp[eB] at h;subst h
  refine⟨rfl,λh=>absurd rfl h,λv aB=>(by cases aB),λj=>by rw[if_neg (by simp)]⟩
 |n+1,_::_,[],r,h=>by simp[eB] at h
 |n+1,v::vs,c::cs,r,h=>by
  simp only[eB] at h
  cases e:eB n (v::vs) cs with
  |none=>simp[e] at h
  |some r'=>
   simp[e] at h;subst h
   obtain⟨aa,ad,ar,aM⟩:=xX n (v::vs) cs r' e
   refine⟨by simp[aa],λ_=>?_,ar,λj=>?_⟩
   · have:=ad (by simp);simp at this⊢;omega
   · cases j with
     |zero=>simp
     |succ j=>
      have:=aM j
      simp only[List.getElem?_cons_succ,this,List.length_cons]
      have aC:(n+1<=j+1/\j+1<n+1+(vs.length+1))<->(n<=j/\j<n+(vs.length+1)):=by omega
      have ax:j+1-(n+1)=j-n:=by omega
      simp only[aC,ax]
theorem EA{w:World}{a5 el eS eT:Nat}{c:Array Value}(h:w.heap[a5]? =some (.cells c el (eS,eT)))(k:Nat):w.cell? ⟨a5,k,none⟩=c[k]? :=by
 simp[World.cell?,h]
theorem EB{μ:a8}{H:J}{w:World}(ah:bc μ H w){b off:Nat}{i:dL}(ae:μ b=some i){cs:List I}{el a9 dY:Nat}{k:fB}(af:H.get b=some (.cells cs el k a9 dY))
  {v:I}(aB:cs[off]? =some v):∃u,w.cell? ⟨i.a5,i.base+off,none⟩=some u/\a1 μ v u:=by
 obtain⟨c,eS,eT,aa,ad,_⟩:=ah.rel b _ i af ae
 obtain⟨u,hu,r⟩:=ad off v aB
 exact⟨u,by rw[EA aa,hu],r⟩
theorem EC{P:Program}{w:World}{a:Addr}{u:Value}(h:w.cell? a=some u):(_root_.Go.load a).run P w=.ok u w:=by
 rw[run_load];simp[h]
theorem La{P:Program}{μ:a8}{H:J}{w:World}(ah:bc μ H w){b:Nat}{i:dL}(ae:μ b=some i){cs:List I}{el a9 dY:Nat}{k:fB}(af:H.get b=some (.cells cs el k a9 dY))(off:Nat):
  ∀(n s:Nat) (acc:Array Value) (pU:List I),takeN n (g0 (off+s) cs)=some pU->
   ∃us:List Value,(loadCellsFrom ⟨i.a5,i.base+off,none⟩ s n acc).run P w=.ok (acc++us.toArray) w/\bN μ pU us:=by
 intro n
 induction n with
 |zero=>
  intro s acc pU h
  simp[takeN] at h;subst h
  exact⟨[],by simp[loadCellsFrom],rfl⟩
 |succ n bg=>
  intro s acc pU h
  rw[lW] at h
  cases az:cs.drop (off+s) with
  |nil=>rw[az] at h;simp[takeN] at h
  |cons a l=>
   rw[az] at h
   simp only[takeN] at h
   cases e:takeN n l with
   |none=>simp[e] at h
   |some r=>
    simp[e] at h;subst h
    have aX:cs[off+s]? =some a:=by
     have:=congrArg (·[0]?) az
     simpa[List.getElem?_drop] using this
    have an:l=g0 (off+(s+1)) cs:=by
     rw[lW]
     have:=congrArg (List.drop 1) az
     simp only[List.drop_drop,List.drop_succ_cons,List.drop_zero] at this
     rw[<-this];congr 1
    obtain⟨u,hu,ai⟩:=EB ah ae af aX
    obtain⟨us,aa,ad⟩:=bg (s+1) (acc.push u) r (by rw[<-an];exact e)
    refine⟨u::us,?_,⟨u,us,rfl,ai,ad⟩⟩
    have k_:w.cell? ((⟨i.a5,i.base+off,none⟩:Addr).add s)=some u:=by rw[add_plain,Nat.add_assoc];exact hu
    simp only[loadCellsFrom,Sem.run_bind,EC k_,Result.andThen_ok,aa]
    congr 1
    apply Array.ext'
    simp
theorem pV{P:Program}{μ:a8}{H:J}{w:World}(ah:bc μ H w){b off n:Nat}{i:dL}(ae:μ b=some i){pU:List I}(h:loadCells H b off n=some pU):
  ∃us:List Value,(_root_.Go.loadCells ⟨i.a5,i.base+off,none⟩ n).run P w=.ok ⟨us⟩ w/\bN μ pU us:=by
 unfold loadCells at h
 split at h
 · rename_i cs el k a9 dY af
   obtain⟨us,aa,ad⟩:=La (P:=P) ah ae af off n 0 #[] pU h
   exact⟨us,by simpa[_root_.Go.loadCells] using aa,ad⟩
 · cases h
theorem Az{P:Program}{μ:a8}{H:J}{w:World}(ah:bc μ H w){b off:Nat}{i:dL}(ae:μ b=some i){v:I}(h:ay H b off=some v):
  ∃u,(_root_.Go.load ⟨i.a5,i.base+off,none⟩).run P w=.ok u w/\a1 μ v u:=by
 unfold ay at h
 split at h
 · rename_i cs el k a9 dY af
   rw[oK] at h
   obtain⟨u,hu,ai⟩:=EB ah ae af h
   exact⟨u,EC hu,ai⟩
 · cases h
theorem ED(P:Program)(a5 k:Nat):∀(vs:List Value) (w:World) (i:Nat) (c:Array Value) (el eS eT:Nat),w.heap[a5]? =some (.cells c el (eS,eT))->
  (∀v∈vs,v.oneCell'=true)->k+i+vs.length<=c.size->(∀j,k+i<=j->j<k+i+vs.length->¬(eS<=j/\j<eT))->
  ∃w' c',(_root_.Go.storeCells ⟨a5,k,none⟩ vs i).run P w=.ok () w'/\w'.heap[a5]? =some (.cells c' el (eS,eT))/\(∀r,r≠a5->w'.heap[r]? =w.heap[r]?)/\w'.heap.size=w.heap.size/\
   w'.os=w.os/\w'.output=w.output/\(w'.tape=w.tape/\w'.drawn=w.drawn)/\c'.size=c.size/\∀j,c'[j]? =if k+i<=j/\j<k+i+vs.length then vs[j-(k+i)]? else c[j]? :=by
 intro vs
 induction vs with
 |nil=>
  intro w i c el eS eT af _ _ _
  exact⟨w,c,by simp[_root_.Go.storeCells],af,λ_ _=>rfl,rfl,rfl,rfl,⟨rfl,rfl⟩,rfl,λj=>by rw[if_neg (by simp)]⟩
 |cons v vs bg=>
  intro w i c el eS eT af ag hs hf
  simp only[List.length_cons] at hs hf
  have cj:k+i<c.size:=by omega
  have pW:w.cell? ⟨a5,k+i,none⟩=some c[k+i]:=by rw[EA af];exact Array.getElem?_eq_getElem cj
  have xY:w.frozen? ⟨a5,k+i,none⟩=false:=by
   have:=hf (k+i) (by omega) (by omega)
   simp only[World.frozen?,af]
   cases aa:decide (eS<=k+i) with
   |false=>rfl
   |true=>
    cases ad:decide (k+i<eT) with
    |false=>rfl
    |true=>exact absurd ⟨of_decide_eq_true aa,of_decide_eq_true ad⟩ this
  have hK:(w.setCell ⟨a5,k+i,none⟩ v).heap[a5]? =some (.cells (c.setIfInBounds (k+i) v) el (eS,eT)):=by
   simp[World.setCell,Array.getElem?_modify,af]
  obtain⟨w',c',aa,ad,ar,aM,bS,cK,ew,iQ,gQ⟩:=bg (w.setCell ⟨a5,k+i,none⟩ v) (i+1) (c.setIfInBounds (k+i) v) el eS eT hK (λx ab=>ag x (.tail _ ab)) (by simp;omega)
   (λj W_ lX=>hf j (by omega) (by omega))
  refine⟨w',c',?_,ad,λr ai=>?_,?_,bS,cK,ew,by simpa using iQ,λj=>?_⟩
  · simp only[_root_.Go.storeCells,Sem.run_bind,add_plain,run_store P w ⟨a5,k+i,none⟩ v .plain (ag v (.head _)),pW,xY,Bool.false_eq_true,if_false,Result.andThen_ok,aa]
  · rw[ar r ai];simp only[World.setCell,Array.getElem?_modify]
    rw[if_neg (λe=>ai e.symm)]
  · rw[aM];simp[World.setCell]
  · rw[gQ j]
    by_cases e:j=k+i
    · subst e
      rw[if_neg (by omega),if_pos (by simp),Array.getElem?_setIfInBounds]
      simp[cj]
    · by_cases ax:k+(i+1)<=j/\j<k+(i+1)+vs.length
      · rw[if_pos ax,if_pos (by simp only[List.length_cons];omega)]
        have:j-(k+i)=(j-(k+(i+1)))+1:=by omega
        rw[this];simp
      · rw[if_neg ax,if_neg (by simp only[List.length_cons];omega),Array.getElem?_setIfInBounds]
        rw[if_neg (λcx=>e cx.symm)]
theorem bN.vc{μ:a8}:∀{as:List I} {vs:List Value},bN μ as vs->(∀a∈as,a.bC=true)->∀v∈vs,v.oneCell'=true
 |[],_,h,_=>by cases h;intro v aB;cases aB
 |a::as,_,⟨v,vs,e,aa,ad⟩,ag=>by
  subst e
  intro x ab
  cases ab with
  |head=>exact aa.vc (ag a (.head _))
  |tail _ ab=>exact bN.vc ad (λa aX=>ag a (.tail _ aX)) x ab
theorem Lb{k:fB}{a9 ae off n:Nat}(hw:im k a9 ae off n=true){cs:List I}{i:dL}{eS eT:Nat}(aq:Aw k cs i a9 ae eS eT)(cJ:n=0\/off+n<=i.size):
  ∀j,i.base+off<=j->j<i.base+off+n->¬(eS<=j/\j<eT):=by
 intro j aa ad ⟨ar,aM⟩
 cases k with
 |ro=>simp[im] at hw
 |fz=>simp[im] at hw
 |own=>
  obtain⟨af,hs,rfl,rfl⟩:=aq
  simp only[im,Bool.or_eq_true,Nat.ble_eq] at hw
  omega
 |aN=>
  obtain⟨hs,hf⟩:=aq
  simp only[im,Bool.or_eq_true,Nat.ble_eq] at hw
  have:=hf (j-i.base) (by omega) (by omega) (by omega)
  omega
theorem vf{P:Program}{μ:a8}{H:J}{w:World}(ah:bc μ H w){b off:Nat}{i:dL}(ae:μ b=some i){vs:List I}{us:List Value}(aB:bN μ vs us){aO:J}
  (h:storeCells H b off vs=some aO):
  ∃w',(_root_.Go.storeCells ⟨i.a5,i.base+off,none⟩ us).run P w=.ok () w'/\bc μ aO w'/\bO μ H w μ aO w':=by
 unfold storeCells at h
 split at h
 · rename_i cs el k a9 dY af
   split at h
   · rename_i hw
     split at h
     · rename_i bH a6
       cases h
       obtain⟨dy,dq,iu,hL⟩:=xX _ _ _ _ a6
       obtain⟨c,eS,eT,aa,ad,ar,aM⟩:=ah.rel b _ i af ae
       have hlen:=aB.length
       have br:vs≠[]->off+vs.length<=i.size/\i.base+off+vs.length<=c.size:=λdf=>by
        have:=dq df
        have pX:=ad (cs.length-1) (cs[cs.length-1]'(by cases vs with|nil=>exact absurd rfl df|cons a l=>simp at this;omega)) (List.getElem?_eq_getElem _)
        obtain⟨u,hu,_⟩:=pX
        have cj:i.base+(cs.length-1)<c.size:=by
         rcases Nat.lt_or_ge (i.base+(cs.length-1)) c.size with h|h
         · exact h
         · rw[Array.getElem?_eq_none h] at hu;cases hu
        have xZ:0<vs.length:=by cases vs with|nil=>exact absurd rfl df|cons a l=>simp
        cases k with
        |ro=>simp[im] at hw
        |fz=>simp[im] at hw
        |own=>obtain⟨cY,dr,_⟩:=aM;omega
        |aN=>obtain⟨cY,_⟩:=aM;omega
       by_cases df:vs=[]
       · subst df
         have:us=[]:=by cases us with|nil=>rfl|cons a l=>simp at hlen
         subst this
         have gG:bH=cs:=by
          apply List.ext_getElem?
          intro j;rw[hL j,if_neg (by simp)]
         subst gG
         obtain⟨r1,r2⟩:=ah.update (w':=w) af (by cases k<;>first|rfl|simp[im] at hw) ae rfl (λ_ _=>rfl) rfl rfl rfl (ah.rel b _ i af ae)
         exact⟨w,by simp[_root_.Go.storeCells],r1,r2⟩
       · obtain⟨s1,s2⟩:=br df
         obtain⟨w',c',aC,ax,bp,ds,hh,hv,hM,jk,jW⟩:=ED P i.a5 (i.base+off) us w 0 c el eS eT aa (aB.vc iu) (by omega)
          (by have:=Lb hw aM (.inr s1);rw[hlen] at this;simpa using this)
         obtain⟨r1,r2⟩:=ah.update (w':=w') (o':=.cells bH el k a9 dY) af (by cases k<;>first|rfl|simp[im] at hw) ae ds bp hh hv hM.1 (hdr:=Nat.le_of_eq hM.2.symm)
          ⟨c',eS,eT,ax,λj v aD=>by
           rw[hL j] at aD
           rw[jW]
           by_cases ai:off<=j/\j<off+vs.length
           · rw[if_pos ai] at aD
             rw[if_pos (by omega)]
             have:i.base+j-(i.base+off+0)=j-off:=by omega
             rw[this];exact aB.get aD
           · rw[if_neg ai] at aD
             rw[if_neg (by omega)]
             exact ad j v aD,by omega,by
           cases k with
           |ro=>trivial
           |fz=>trivial
           |own=>obtain⟨cY,dr,h2⟩:=aM;exact⟨cY,by omega,h2⟩
           |aN=>obtain⟨cY,dr⟩:=aM;exact⟨by omega,dr⟩⟩
         exact⟨w',aC,r1,r2⟩
     · cases h
   · cases h
 · cases h
theorem World.heap_alloc_new(w:World)(x:Obj):(w.alloc x).heap[w.heap.size]? =some x:=by unfold World.alloc;simp
theorem x0{P:Program}{μ:a8}{H:J}{w:World}(ah:bc μ H w){el b:Nat}{cs:List I}{us:List Value}{aO:J}(aB:bN μ cs us)(h:newRow H el cs=some (b,aO)):
  (_root_.Go.newRow el ⟨us⟩).run P w=.ok ⟨w.heap.size,0,none⟩ (w.alloc (.cells ⟨us⟩ el))/\b=H.n/\fr μ H.n ⟨w.heap.size,0,us.length⟩ b=some ⟨w.heap.size,0,us.length⟩/\
   bc (fr μ H.n ⟨w.heap.size,0,us.length⟩) aO (w.alloc (.cells ⟨us⟩ el))/\bO μ H w (fr μ H.n ⟨w.heap.size,0,us.length⟩) aO (w.alloc (.cells ⟨us⟩ el)):=by
 unfold newRow at h
 split at h
 · cases h
   have hle:=ah.mK ⟨w.heap.size,0,us.length⟩
   obtain⟨r1,r2⟩:=ah.alloc (.cells cs el .own 0 0) (.cells ⟨us⟩ el) us.length
    ⟨⟨us⟩,0,0,by exact World.heap_alloc_new _ _,λj v aD=>by
      obtain⟨u,hu,ai⟩:=aB.get aD
      exact⟨u,by simpa using hu,ai.mono hle⟩,by simp,rfl,aB.length.symm,rfl,rfl⟩
   exact⟨by simp[_root_.Go.newRow],rfl,fs _ _ _,r1,r2⟩
 · cases h
section types
variable {P:Program} {w:World} {t:TypeId}
theorem run_typeInfo{i:TypeInfo}(h:P.info? t=some i):(typeInfo t).run P w=.ok i w:=by simp[typeInfo,h]
theorem bx{d:TypeDesc}(h:P.underlying t=some d):(underlying t).run P w=.ok d w:=by simp[underlying,h]
theorem run_sizeOf{n:Nat}(h:cV P t=some n):(_root_.Go.sizeOf t).run P w=Result.ok n w:=by
 unfold cV at h
 split at h
 · rename_i i ae;cases h;simp[_root_.Go.sizeOf,run_typeInfo ae]
 · cases h
theorem tn{b:Bool}(h:k6 P t=some b):(isAgg t).run P w=.ok b w:=by
 unfold k6 at h
 cases hu:P.underlying t with
 |none=>rw[hu] at h;cases h
 |some d=>
  rw[hu] at h
  simp only[isAgg,Sem.run_bind,bx hu,Result.andThen_ok]
  cases d<;>cases h<;>rfl
theorem kz{z:I}(h:dN P t=some z):∃v,(zeroValue t).run P w=.ok v w/\z=mD v/\z≠ .bad:=by
 unfold dN at h
 split at h
 · rename_i i ae
   split at h
   · rename_i v aB
     split at h
     · cases h
     · rename_i a df
       cases h
       exact⟨v,by simp[zeroValue,run_typeInfo ae,aB],rfl,df⟩
   · cases h
 · cases h
end types
end aw
namespace aw
open Go
def eC(P:Program)(μ:a8)(H:J)(w:World)(s:Sem Value)(v:I)(aO:J):Prop:=
 ∃aH w' v',s.run P w=.ok v' w'/\a1 aH v v'/\bc aH aO w'/\bO μ H w aH aO w'
theorem eC.same{P:Program}{μ:a8}{H:J}{w:World}{s:Sem Value}{v:I}{v':Value}(ah:bc μ H w)(hs:s.run P w=.ok v' w)(aB:a1 μ v v'):eC P μ H w s v H:=
 ⟨μ,w,v',hs,aB,ah,bO.refl _ _ _⟩
section
variable {P:Program} {μ:a8} {H:J} {w:World}
theorem Lc(ah:bc μ H w){e:TypeId}{z:I}(aT:dN P e=some z){b:Nat}{aO:J}(ai:newRow H e z.cells=some (b,aO)):
  eC P μ H w (Instr.alloc e true (.tuple #[])) (.ptr b 0) aO:=by
 obtain⟨v,aB,rfl,af⟩:=kz (w:=w) aT
 have ag:=(iP μ v).cells af
 obtain⟨aa,rfl,ad,ar,aM⟩:=x0 (P:=P) ah ag ai
 refine⟨_,_,.pointer (some ⟨w.heap.size,0,none⟩),?_,⟨_,ad,by simp⟩,ar,aM⟩
 simp[Instr.alloc,aB,newVar,aa]
theorem Ld(ah:bc μ H w){e:TypeId}{x:I}{v:Value}(aB:a1 μ x v){b:Nat}{aO:J}(ai:newRow H e x.cells=some (b,aO)):
  eC P μ H w (Instr.box e v) (.ptr b 0) aO:=by
 have af:x≠ .bad:=by intro h;rw[h] at ai;simp[newRow,I.cells,I.bC] at ai
 obtain⟨aa,rfl,ad,ar,aM⟩:=x0 (P:=P) ah (aB.cells af) ai
 refine⟨_,_,.pointer (some ⟨w.heap.size,0,none⟩),?_,⟨_,ad,by simp⟩,ar,aM⟩
 simp[Instr.box,newVar,aa]
theorem Le(ah:bc μ H w){t:TypeId}{b off:Nat}{v:Value}(aB:a1 μ (.ptr b off) v):
  (∀n cs,k6 P t=some true->cV P t=some n->loadCells H b off n=some cs->eC P μ H w (Instr.loadAt t v) (.agg cs) H)/\
  (∀x,k6 P t=some false->ay H b off=some x->eC P μ H w (Instr.loadAt t v) x H):=by
 obtain⟨i,ae,rfl⟩:=aB
 constructor
 · intro n cs aX aG an
   obtain⟨us,aa,ad⟩:=pV (P:=P) ah ae an
   exact .same ah (v':=.agg ⟨us⟩) (by simp[Instr.loadAt,Instr.sureAddr,loadVar,tn aX,run_sizeOf aG,aa]) ⟨us,rfl,ad⟩
 · intro x aX an
   obtain⟨u,aa,ad⟩:=Az (P:=P) ah ae an
   exact .same ah (v':=u) (by simp only[Instr.loadAt,Instr.sureAddr,loadVar,Sem.run_bind,Sem.run_pure,Result.andThen_ok,tn aX,Bool.false_eq_true,if_false,aa]) ad
theorem Lf(ah:bc μ H w){t:TypeId}{b off n:Nat}{v u:Value}{x:I}(aB:a1 μ (.ptr b off) v)(ab:a1 μ x u)(af:x≠ .bad)(aG:cV P t=some n)(an:x.cells.length=n)
  {aO:J}(hs:storeCells H b off x.cells=some aO):
  ∃w',(Instr.storeAt t v u).run P w=.ok () w'/\bc μ aO w'/\bO μ H w μ aO w':=by
 obtain⟨i,ae,rfl⟩:=aB
 have ag:=ab.cells af
 obtain⟨w',aa,ad,ar⟩:=vf (P:=P) ah ae ag hs
 refine⟨w',?_,ad,ar⟩
 have br:u.cells.size=n:=by have:=ag.length;rw[an] at this;simpa using this.symm
 simp[Instr.storeAt,Instr.sureAddr,storeVar,run_sizeOf aG,br,aa]
theorem EE(off:Nat):∀(l:List Value) (s:Nat) (cs:Array Value),off+s+l.length<=cs.size->
  ((l.zipIdx s).foldl (λcs (x:Value×Nat)=>cs.setIfInBounds (off+x.2) x.1) cs).size=cs.size/\
  ∀j:Nat,((l.zipIdx s).foldl (λcs (x:Value×Nat)=>cs.setIfInBounds (off+x.2) x.1) cs)[j]? =if off+s<=j/\j<off+s+l.length then l[j-(off+s)]? else cs[j]?
 |[],s,cs,_=>by
  refine⟨rfl,λj=>by rw[if_neg (by simp)];rfl⟩
 |a::l,s,cs,h=>by
  simp only[List.length_cons] at h
  obtain⟨aa,ad⟩:=EE off l (s+1) (cs.setIfInBounds (off+s) a) (by simp;omega)
  simp only[List.zipIdx_cons,List.foldl_cons]
  refine⟨by rw[aa];simp,λj=>?_⟩
  rw[ad j]
  by_cases e:j=off+s
  · subst e
    rw[if_neg (by omega),if_pos (by simp),Array.getElem?_setIfInBounds]
    simp;omega
  · by_cases ax:off+(s+1)<=j/\j<off+(s+1)+l.length
    · rw[if_pos ax,if_pos (by simp only[List.length_cons];omega)]
      have:j-(off+s)=(j-(off+(s+1)))+1:=by omega
      rw[this];simp
    · rw[if_neg ax,if_neg (by simp only[List.length_cons];omega),Array.getElem?_setIfInBounds,if_neg (λcx=>e cx.symm)]
theorem vg(place:Nat->Option (Nat×Nat)){re:Type}(g:re->I)(b7:re->Value)(aj:∀x,a1 μ (g x) (b7 x)):∀(ps:List (Nat×re)) (cs r:List I) (c:Array Value),bN μ cs c.toList->
  iq place cs (ps.map λp=>(p.1,g p.2))=some r->∃c':List Value,Instr.fill place c (ps.map λp=>(p.1,b7 p.2))=some ⟨c'⟩/\bN μ r c'
 |[],cs,r,c,ag,h=>by
  simp[iq] at h;subst h
  exact⟨c.toList,by simp[Instr.fill],ag⟩
 |(k,x)::ps,cs,r,c,ag,h=>by
  simp only[List.map_cons] at h⊢
  have aB:=aj x
  generalize g x=v at h aB
  generalize b7 x=u at aB⊢
  have af:v≠ .bad:=by intro e;subst e;simp[iq] at h
  have vh:∃off size bH,place k=some (off,size)/\v.cells.length=size/\off+size<=cs.length/\eB off v.cells cs=some bH/\iq place bH (ps.map λp=>(p.1,g p.2))=some r:=by
   cases v<;>first
    |exact absurd rfl af
    |(simp only[iq] at h
      split at h
      · cases h
      · rename_i off size nG
        split at h
        · rename_i br
          simp only[Bool.and_eq_true,Nat.ble_eq] at br
          split at h
          · rename_i bH vi
            exact⟨off,size,bH,nG,Nat.eq_of_beq_eq_true br.1,br.2,vi,h⟩
          · cases h
        · cases h)
  obtain⟨off,size,bH,nG,br,hbound,vi,pY⟩:=vh
  obtain⟨dy,dq,iu,hL⟩:=xX _ _ _ _ vi
  have jX:=aB.cells af
  have an:=jX.length
  have pZ:=ag.length
  have ar:c.toList.length=c.size:=by simp
  have Lg:u.cells.size=size:=by rw[<-br,an];simp
  obtain⟨f1,f2⟩:=EE off u.cells.toList 0 c (by simp;omega)
  have Lh:(u.cells.zipIdx.foldl (λcs (x:Value×Nat)=>cs.setIfInBounds (off+x.2) x.1) c)=((u.cells.toList.zipIdx 0).foldl (λcs (x:Value×Nat)=>cs.setIfInBounds (off+x.2) x.1) c):=by
   rw[<-Array.foldl_toList,Array.toList_zipIdx]
  have key:bN μ bH (u.cells.zipIdx.foldl (λcs (x:Value×Nat)=>cs.setIfInBounds (off+x.2) x.1) c).toList:=by
   rw[Lh]
   refine bN.vb (by rw[dy,pZ];simpa using f1.symm) λj a aX=>?_
   rw[hL j] at aX
   rw[Array.getElem?_toList,f2 j]
   have Li:u.cells.toList.length=v.cells.length:=an.symm
   by_cases ai:off<=j/\j<off+v.cells.length
   · rw[if_pos ai] at aX;rw[if_pos (by omega)]
     exact jX.get (by simpa using aX)
   · rw[if_neg ai] at aX;rw[if_neg (by omega)]
     simpa using ag.get aX
  obtain⟨c',al,au⟩:=vg place g b7 aj ps bH r _ key pY
  refine⟨c',?_,au⟩
  simp only[Instr.fill,nG,Lg]
  rw[if_neg (by simp;omega)]
  exact al
theorem Lj{t:TypeId}{n:Nat}(h:cV P t=some n):P.cellsOf t=n:=by
 unfold cV at h
 split at h
 · rename_i i ae;cases h;simp[Program.cellsOf,ae]
 · cases h
theorem run_places(w:World):∀l:List Field,(l.all λf=>(cV P f.type).isSome)=true->
  (l.mapM (λf=>do pure (f.offset,<-_root_.Go.sizeOf f.type):Field->Sem (Nat×Nat))).run P w=.ok (l.map λf=>(f.offset,P.cellsOf f.type)) w
 |[],_=>rfl
 |f::l,h=>by
  simp only[List.all_cons,Bool.and_eq_true] at h
  obtain⟨n,aG⟩:=Option.isSome_iff_exists.1 h.1
  simp only[List.mapM_cons,Sem.run_bind,run_sizeOf aG,Result.andThen_ok,Sem.run_pure,run_places w l h.2,List.map_cons,Lj aG]
theorem Lk(ah:bc μ H w)(g:Operand->I)(b7:Operand->Value)(aj:∀x,a1 μ (g x) (b7 x)){t:TypeId}{z:I}(aT:dN P t=some z){b2:Array Field}(hu:P.underlying t=some (.struct b2))
  (eO:(b2.toList.all λf=>(cV P f.type).isSome)=true)(parts:Array (Nat×Operand)){cs:List I}
  (hf:iq (λi=>(b2[i]?).map λf=>(f.offset,P.cellsOf f.type)) z.cells (parts.toList.map λp=>(p.1,g p.2))=some cs):
  eC P μ H w (Instr.build t (parts.map λ(i,x)=>(i,b7 x))) (.agg cs) H:=by
 obtain⟨v,aB,rfl,af⟩:=kz (w:=w) aT
 have ag:=(iP μ v).cells af
 obtain⟨c',aa,ad⟩:=vg _ g b7 aj parts.toList _ cs v.cells ag hf
 have a6:=run_places (P:=P) w b2.toList eO
 refine .same ah (v':=.agg ⟨c'⟩) ?_ ⟨c',rfl,ad⟩
 have hm:(b2.mapM (λf=>do pure (f.offset,<-_root_.Go.sizeOf f.type):Field->Sem (Nat×Nat))).run P w=.ok (b2.map λf=>(f.offset,P.cellsOf f.type)) w:=by
  obtain⟨l⟩:=b2
  have e:(l.toArray.mapM (λf=>do pure (f.offset,<-_root_.Go.sizeOf f.type):Field->Sem (Nat×Nat)))=List.toArray<$>l.mapM (λf=>do pure (f.offset,<-_root_.Go.sizeOf f.type)):=List.mapM_toArray
  refine(congrArg (λs:Sem (Array (Nat×Nat))=>s.run P w) e).trans ?_
  simp only[Sem.run_map]
  rw[show(Sem.run P (List.mapM (λf=>do pure (f.offset,<-_root_.Go.sizeOf f.type):Field->Sem (Nat×Nat)) l) w)=_ from a6];simp
 have Ll:(λi:Nat=>(b2.map λf=>(f.offset,P.cellsOf f.type))[i]?)=λi=>(b2[i]?).map λf=>(f.offset,P.cellsOf f.type):=by
  funext i;simp
 simp only[Instr.build,Sem.run_bind,aB,Result.andThen_ok,bx hu,hm,Ll,Array.toList_map,aa]
 rfl
theorem Lm(ah:bc μ H w)(g:Operand->I)(b7:Operand->Value)(aj:∀x,a1 μ (g x) (b7 x)){t e:TypeId}{n sz:Nat}{z:I}(aT:dN P t=some z)(hu:P.underlying t=some (.array n e))
  (hs:cV P e=some sz)(parts:Array (Nat×Operand)){cs:List I}
  (hf:iq (λi=>some (i*sz,sz)) z.cells (parts.toList.map λp=>(p.1,g p.2))=some cs):
  eC P μ H w (Instr.build t (parts.map λ(i,x)=>(i,b7 x))) (.agg cs) H:=by
 obtain⟨v,aB,rfl,af⟩:=kz (w:=w) aT
 have ag:=(iP μ v).cells af
 obtain⟨c',aa,ad⟩:=vg _ g b7 aj parts.toList _ cs v.cells ag hf
 refine .same ah (v':=.agg ⟨c'⟩) ?_ ⟨c',rfl,ad⟩
 simp only[Instr.build,Sem.run_bind,aB,Result.andThen_ok,bx hu,run_sizeOf hs,Array.toList_map,aa]
 rfl
theorem EF{α:Type}(n:Nat)(l:List α):(ej n l).length=n*l.length:=by
 induction n with
 |zero=>simp[ej]
 |succ n bg=>simp[ej,bg,Nat.succ_mul];omega
theorem EG{α:Type}:∀(n:Nat) (l:List α) (j:Nat),j<n*l.length->(ej n l)[j]? =l[j %l.length]?
 |0,l,j,h=>by simp at h
 |n+1,l,j,h=>by
  simp only[ej]
  by_cases e:j<l.length
  · rw[List.getElem?_append_left e,Nat.mod_eq_of_lt e]
  · rw[List.getElem?_append_right (by omega),EG n l (j-l.length) (by rw[Nat.succ_mul] at h;omega)]
    have:(j-l.length) %l.length=j %l.length:=by
     have ah:j=(j-l.length)+l.length:=by omega
     conv=>rhs;rw[ah,Nat.add_mod_right]
    rw[this]
theorem vj{lY:List I}{zero:Array Value}(aT:bN μ lY zero.toList){sz:Nat}(hs:lY.length=sz)(n:Nat):
  bN μ (ej n lY) ((Array.range (n*sz)).map (λi=>zero[i %zero.size]!)).toList:=by
 have an:=aT.length
 have ar:zero.toList.length=zero.size:=by simp
 refine bN.vb (by rw[EF,hs];simp) λj a aX=>?_
 have aD:j<n*lY.length:=by
  rcases Nat.lt_or_ge j (n*lY.length) with h|h
  · exact h
  · rw[List.getElem?_eq_none (by rw[EF];exact h)] at aX;cases aX
 rw[EG n lY j aD] at aX
 obtain⟨u,hu,ai⟩:=aT.get aX
 refine⟨u,?_,ai⟩
 have xZ:0<lY.length:=by
  rcases Nat.eq_zero_or_pos lY.length with h|h
  · rw[h] at aD;simp at aD
  · exact h
 have cj:j %zero.size<zero.size:=Nat.mod_lt _ (by omega)
 have aC:lY.length=zero.size:=by omega
 rw[aC] at hu
 rw[Array.getElem?_toList] at hu
 rw[Array.getElem?_toList,Array.getElem?_map,Array.getElem?_range]
 rw[if_pos (by rw[<-hs];exact aD)]
 simp only[Option.map_some]
 rw[Array.getElem?_eq_getElem cj] at hu
 simp only[Option.some.injEq] at hu
 rw[getElem!_pos zero _ cj,hu]
theorem Ln(ah:bc μ H w)(g:Operand->I)(b7:Operand->Value)(aj:∀x,a1 μ (g x) (b7 x)){t e:TypeId}{len sz:Nat}{z:I}(hu:P.underlying t=some (.slice e))(hs:cV P e=some sz)
  (aT:dN P e=some z)(hle:len*sz<=16777216)(mM:z.cells.length=sz)(parts:Array (Nat×Operand)){cs:List I}
  (hf:iq (λi=>some (i*sz,sz)) (if len*sz=0 then[] else ej len z.cells) (parts.toList.map λp=>(p.1,g p.2))=some cs){b:Nat}{aO:J}(ai:newRow H e cs=some (b,aO)):
  eC P μ H w (Instr.buildSlice t len (parts.map λ(i,x)=>(i,b7 x))) (.slice b 0 len (.exact len)) aO:=by
 obtain⟨v,aB,rfl,af⟩:=kz (w:=w) aT
 have ag:=(iP μ v).cells af
 have rj:¬(len*sz>2^24):=by omega
 have key:∀zero:Array Value,bN μ (if len*sz=0 then[] else ej len (mD v).cells) ((Array.range (len*sz)).map (λi=>zero[i %zero.size]!)).toList->
   (∀r:Result Value,r=(match Instr.fill (λi=>some (i*sz,sz)) ((Array.range (len*sz)).map (λi=>zero[i %zero.size]!)) (parts.toList.map λp=>(p.1,b7 p.2)) with
    |some cells=>do pure (.slice (some (<-_root_.Go.newRow e cells)) len len)
    |none=>stuck "buildSlice: a part of the wrong size" :Sem Value).run P w->(Instr.buildSlice t len (parts.map λ(i,x)=>(i,b7 x))).run P w=r)->
   eC P μ H w (Instr.buildSlice t len (parts.map λ(i,x)=>(i,b7 x))) (.slice b 0 len (.exact len)) aO:=by
  intro zero oL eo
  obtain⟨c',aa,ad⟩:=vg _ g b7 aj parts.toList _ cs _ oL hf
  obtain⟨aI,rfl,bw,cH,cZ⟩:=x0 (P:=P) ah ad ai
  refine⟨_,_,.slice (some ⟨w.heap.size,0,none⟩) len len,?_,⟨_,bw,by simp[Au]⟩,cH,cZ⟩
  refine eo _ ?_
  rw[aa]
  simp[aI]
 by_cases h0:len*sz=0
 · refine key #[] (by rw[if_pos h0,h0];simp[bN]) λr ai=>?_
   rw[ai]
   simp only[Instr.buildSlice,Sem.run_bind,bx hu,Result.andThen_ok,run_sizeOf hs,if_neg rj,if_pos h0,Sem.run_pure,Array.toList_map]
   generalize Instr.fill _ _ _=F
   cases F<;>rfl
 · refine key v.cells (by rw[if_neg h0];exact vj ag mM len) λr ai=>?_
   rw[ai]
   simp only[Instr.buildSlice,Sem.run_bind,bx hu,Result.andThen_ok,run_sizeOf hs,if_neg rj,if_neg h0,Sem.run_pure,Array.toList_map,aB]
   generalize Instr.fill _ _ _=F
   cases F<;>rfl
end
end aw
namespace aw
open Go
theorem rk(n:Nat)(h:n<9223372036854775808):IntKind.wrap .i64 (n:Int)=(n:Int):=by
 have e:((n:Int) %18446744073709551616)=n:=by omega
 have ax:(2:Int)^64=18446744073709551616:=by rfl
 have bp:(2:Int)^63=9223372036854775808:=by rfl
 simp only[IntKind.wrap,IntKind.bits,IntKind.signed,ax,bp,e,Bool.true_and,decide_eq_true_eq,Nat.add_one_sub_one]
 rw[if_neg (by show¬((2:Int)^63<=n);rw[bp];omega)]
section
variable {P:Program} {μ:a8} {H:J} {w:World}
theorem Lo(ah:bc μ H w){t e:TypeId}{l c:Nat}{i:TypeInfo}{z:I}{kl kc:IntKind}(hu:P.underlying t=some (.slice e))(ae:P.info? e=some i)(aT:dN P e=some z)(pZ:l<=c)
  (tp:c*(i.bytes+1)<=1099511627776)(mM:z.cells.length=i.size){b:Nat}{aO:J}(ai:newRow H e (if c*i.size=0 then[] else ej c z.cells)=some (b,aO)):
  eC P μ H w (Instr.makeSlice t (.int kl l) (.int kc c)) (.slice b 0 l (.exact c)) aO:=by
 obtain⟨v,aB,rfl,af⟩:=kz (w:=w) aT
 have ag:=(iP μ v).cells af
 have AA:c<=1099511627776:=Nat.le_trans (Nat.le_mul_of_pos_right c (by omega)) tp
 have jC:i.bytes*c<=1099511627776:=by
  have:c*i.bytes<=c*(i.bytes+1):=Nat.mul_le_mul_left c (by omega)
  rw[Nat.mul_comm];omega
 have vk:∀n:Nat,n<=1099511627776->IntKind.wrap .i64 (n:Int)=(n:Int):=λn aG=>rk n (by omega)
 have jD:=vk l (by omega)
 have vl:=vk c AA
 have rl:¬((c:Int)<0||(i.bytes:Int)*(c:Int)>2^48||(l:Int)<0||(l:Int)>(c:Int))=true:=by
  have aa:((i.bytes:Int)*(c:Int))<=1099511627776:=by
   have h0:((i.bytes*c:Nat):Int)<=1099511627776:=by omega
   rw[Int.natCast_mul] at h0;exact h0
  have ad:(2:Int)^48=281474976710656:=by rfl
  generalize (i.bytes:Int)*(c:Int)=q at aa⊢
  rw[ad]
  simp only[Bool.or_eq_true,decide_eq_true_eq]
  omega
 have key:∀zero:Array Value,bN μ (if c*i.size=0 then[] else ej c (mD v).cells) ((Array.range (c*i.size)).map (λj=>zero[j %zero.size]!)).toList->
   (Instr.makeSlice t (.int kl l) (.int kc c)).run P w=(do let a<-_root_.Go.newRow e ((Array.range (c*i.size)).map (λj=>zero[j %zero.size]!));pure (.slice (some a) l c):Sem Value).run P w->
   eC P μ H w (Instr.makeSlice t (.int kl l) (.int kc c)) (.slice b 0 l (.exact c)) aO:=by
  intro zero oL eo
  obtain⟨aI,rfl,bw,cH,cZ⟩:=x0 (P:=P) ah oL ai
  refine⟨_,_,.slice (some ⟨w.heap.size,0,none⟩) l c,?_,⟨_,bw,by simp[Au]⟩,cH,cZ⟩
  rw[eo]
  simp only[Sem.run_bind,Sem.run_pure]
  have:(⟨((Array.range (c*i.size)).map (λj=>zero[j %zero.size]!)).toList⟩:Array Value)=((Array.range (c*i.size)).map (λj=>zero[j %zero.size]!)):=rfl
  rw[this] at aI
  rw[aI];rfl
 have br:(_root_.Go.sizeOf e).run P w=.ok i.size w:=by simp[_root_.Go.sizeOf,run_typeInfo ae]
 by_cases h0:c*i.size=0
 · refine key #[] (by rw[if_pos h0,h0];simp[bN]) ?_
   simp only[Instr.makeSlice,Sem.run_bind,bx hu,Result.andThen_ok,asInt,asIntOf,Sem.run_pure,run_typeInfo ae,jD,vl]
   rw[if_neg rl]
   simp[br,h0]
 · refine key v.cells (by rw[if_neg h0];exact vj ag mM c) ?_
   simp only[Instr.makeSlice,Sem.run_bind,bx hu,Result.andThen_ok,asInt,asIntOf,Sem.run_pure,run_typeInfo ae,jD,vl]
   rw[if_neg rl]
   simp[br,h0,aB]
theorem Lp{x:I}{v:Value}(aB:a1 μ x v)(ab:(∃b o,x=.ptr b o)\/(∃b o n c,x=.slice b o n c)\/(∃f a b,x=.fn f a b)\/∃t y,x=.iface t y):
  ∀(o:Oper) (op:Operand) (b7:Operand->Value),b7 op=v->o.op=.nilCheck op->(execOp b7 o).run P w=.ok (.value v) w:=by
 intro o op b7 Lq a2
 simp only[execOp,a2,Lq]
 rcases ab with⟨b,o',rfl⟩|⟨b,o',n,c,rfl⟩|⟨f,a,b,rfl⟩|⟨t,y,rfl⟩
 · obtain⟨i,_,rfl⟩:=aB;rfl
 · obtain⟨i,_,ag⟩:=aB
   cases c with
   |exact c=>cases ag;rfl
   |aN fA=>obtain⟨c,rfl,_⟩:=ag;rfl
   |dead=>obtain⟨_,a,c,rfl⟩:=ag;rfl
 · obtain⟨b2,cs,rfl,_,_⟩:=aB;rfl
 · obtain⟨Lr,rfl,_⟩:=aB;rfl
theorem Ls(op:BinOp)(t:TypeId)(k:IntKind)(x y:Int)(fi:op≠ .shl/\op≠ .shr):binOp op t (.int k x) (.int k y)=match op with
  |.add|.sub|.mul=>Op.intArith op k x y
  |.quo|.rem=>Op.intDiv op k x y
  |.and|.or|.xor|.andNot=>Op.intBits op k x y
  |_=>Op.intCmp op x y:=by
 cases op<;>first
  |(exact absurd rfl fi.1)
  |(exact absurd rfl fi.2)
  |simp[binOp]
theorem Lt{op:BinOp}{k:IntKind}{x y:Int}{v:I}(h:arith op k x y=some v)(fi:op≠ .shl/\op≠ .shr)(t:TypeId):
  ∃u,(binOp op t (.int k x) (.int k y)).run P w=.ok u w/\a1 μ v u:=by
 rw[Ls op t k x y fi]
 cases op<;>simp only[arith] at h
 case shl=>cases h
 case shr=>cases h
 case quo=>
  split at h
  · cases h
  · rename_i aU;cases h;exact⟨_,by simp only[Op.intDiv,if_neg aU];rfl,rfl⟩
 case rem=>
  split at h
  · cases h
  · rename_i aU;cases h;exact⟨_,by simp only[Op.intDiv,if_neg aU];rfl,rfl⟩
 all_goals (cases h;exact⟨_,rfl,rfl⟩)
theorem EH{op:BinOp}{k dH:IntKind}{x y:Int}{v:I}(h:nx op k x y=some v)(t:TypeId):
  ∃u,(binOp op t (.int k x) (.int dH y)).run P w=.ok u w/\a1 μ v u:=by
 unfold nx at h
 split at h
 · cases h
 · rename_i aU
   cases op<;>simp only[] at h<;>first
    |(cases h;done)
    |(cases h;exact⟨_,by simp[binOp,Op.shift,aU],rfl⟩)
theorem EI(b:ByteArray):∀(n i:Nat) (r:List UInt8),b.size-i=n->ByteArray.toList.loop b i r=r.reverse++b.data.toList.drop i
 |0,i,r,h=>by
  rw[ByteArray.toList.loop]
  have hs:b.data.toList.length=b.size:=Array.length_toList
  rw[if_neg (by omega),List.drop_eq_nil_of_le (by omega)];simp
 |n+1,i,r,h=>by
  rw[ByteArray.toList.loop]
  have hs:b.data.toList.length=b.size:=Array.length_toList
  rw[if_pos (by omega),EI b n (i+1) _ (by omega)]
  rw[List.drop_eq_getElem_cons (i:=i) (by omega)]
  have:b.get! i=b.data.toList[i]'(by omega):=by
   have ad:i<b.data.size:=by have:=Array.length_toList (xs:=b.data);omega
   show b.data[i]! =_
   rw[getElem!_pos b.data i ad];simp
  simp[this]
theorem p0(s:ByteArray):s.toList=s.data.toList:=by
 unfold ByteArray.toList
 rw[EI s _ 0 [] rfl];simp
theorem mN:∀a b:List UInt8,bR a b=(a==b)
 |[],[]=>rfl
 |[],_::_=>rfl
 |_::_,[]=>rfl
 |a::x,b::y=>by
  have bg:=mN x y
  simp only[bR,List.cons_beq_cons]
  cases e:Nat.beq a.toNat b.toNat with
  |true=>
   have:a=b:=UInt8.toNat_inj.1 (Nat.eq_of_beq_eq_true e)
   subst this;simp[bg]
  |false=>
   have:(a==b)=false:=by
    rw[beq_eq_false_iff_ne];intro h;subst h;simp at e
   simp[this]
theorem AB:∀a b:List UInt8,eA a b=Op.bytesLess a b
 |[],[]=>rfl
 |[],_::_=>rfl
 |_::_,[]=>rfl
 |a::x,b::y=>by
  have bg:=AB x y
  simp only[eA,Op.bytesLess]
  cases e:Nat.beq a.toNat b.toNat with
  |true=>
   have:a=b:=UInt8.toNat_inj.1 (Nat.eq_of_beq_eq_true e)
   subst this;simp[bg]
  |false=>
   have aa:(a==b)=false:=by
    rw[beq_eq_false_iff_ne];intro h;subst h;simp at e
   have ad:decide (a<b)=Nat.blt a.toNat b.toNat:=by
    rw[Bool.eq_iff_iff];simp[UInt8.lt_iff_toNat_lt]
   simp[aa,ad]
theorem EJ:∀a b:List UInt8,(Op.bytesLess a b||(a==b))=!Op.bytesLess b a
 |[],[]=>rfl
 |[],_::_=>rfl
 |_::_,[]=>rfl
 |a::x,b::y=>by
  have bg:=EJ x y
  simp only[Op.bytesLess,List.cons_beq_cons]
  by_cases h:a=b
  · subst h
    have:¬(a<a):=UInt8.lt_irrefl a
    simpa[this] using bg
  · have df:(a==b)=false:=beq_eq_false_iff_ne.2 h
    have Lu:(b==a)=false:=beq_eq_false_iff_ne.2 (λe=>h e.symm)
    simp only[df,Lu,Bool.false_and,Bool.or_false]
    rw[Bool.eq_iff_iff]
    simp only[decide_eq_true_eq,Bool.not_eq_true',decide_eq_false_iff_not,UInt8.lt_iff_toNat_lt]
    have:a.toNat≠b.toNat:=λe=>h (UInt8.toNat_inj.1 e)
    omega
theorem Lv{op:BinOp}{a b:ByteArray}{v:I}(h:oA op a.data.toList b.data.toList=some v)(t:TypeId):∃u,(binOp op t (.string a) (.string b)).run P w=.ok u w/\a1 μ v u:=by
 have aX:=p0 a
 have af:=p0 b
 have aa:=mN a.data.toList b.data.toList
 have ad:=AB a.data.toList b.data.toList
 have ar:=AB b.data.toList a.data.toList
 have aQ:=EJ a.data.toList b.data.toList
 have vm:a.data.toList.length=a.size:=Array.length_toList
 have Lw:b.data.toList.length=b.size:=Array.length_toList
 cases op<;>simp only[oA] at h
 case add=>
  split at h
  · cases h
  · rename_i an
    cases h
    refine⟨.string (a++b),?_,⟨a++b,rfl,by simp[ByteArray.data_append]⟩⟩
    rw[vm,Lw] at an
    simp only[binOp,Op.stringOp]
    rw[if_neg an];rfl
 case eql=>cases h;exact⟨_,rfl,congrArg Value.bool (by rw[aX,af,aa])⟩
 case neq=>cases h;exact⟨_,rfl,congrArg Value.bool (by rw[aX,af,aa])⟩
 case lss=>cases h;exact⟨_,rfl,congrArg Value.bool (by rw[aX,af,ad])⟩
 case leq=>cases h;exact⟨_,rfl,congrArg Value.bool (by rw[aX,af,ar];exact aQ)⟩
 case gtr=>cases h;exact⟨_,rfl,congrArg Value.bool (by rw[aX,af,ar,aQ,Bool.not_not])⟩
 case geq=>cases h;exact⟨_,rfl,congrArg Value.bool (by rw[aX,af,ad])⟩
 all_goals cases h
def lZ(μ:a8):Option I->Option Value->Prop
 |none,none=>True
 |some a,some v=>a1 μ a v
 |_,_=>False
theorem lZ.map(g:Operand->I)(b7:Operand->Value)(aj:∀x,a1 μ (g x) (b7 x))(o:Option Operand):lZ μ (o.map g) (o.map b7):=by
 cases o with
 |none=>trivial
 |some x=>exact aj x
theorem EK{a:I}{n:Nat}(h:e2 a=some n){v:Value}(aB:a1 μ a v):∃k,v=.int k (n:Int):=by
 unfold e2 at h
 split at h
 · rename_i k m;cases h;exact⟨k,aB⟩
 · cases h
theorem AD{n y:Nat}{k:IntKind}(h:n<=y)(c:BoundsCode):(Instr.sliceBound (.int k (n:Int)) y c).run P w=.ok n w:=by
 simp only[Instr.sliceBound,asIntOf,Sem.run_bind,Sem.run_pure,Result.andThen_ok]
 rw[if_pos ⟨by omega,by omega⟩]
 simp
theorem EL{d n:Nat}{o:Option I}{o':Option Value}(h:iJ d o=some n)(ai:lZ μ o o'):(o'=none/\n=d/\o=none)\/∃k a,o=some a/\o'=some (.int k (n:Int)):=by
 cases o with
 |none=>cases o' with
  |none=>simp[iJ] at h;exact .inl ⟨rfl,h.symm,rfl⟩
  |some _=>exact ai.elim
 |some a=>cases o' with
  |none=>exact ai.elim
  |some v=>obtain⟨k,e⟩:=EK (μ:=μ) h ai;exact .inr ⟨k,a,rfl,by rw[e]⟩
theorem mO{len cap l h m:Nat}{a9 ae mx:Option I}{oM dY mx':Option Value}(g2:lZ μ a9 oM)(iR:lZ μ ae dY)(hi:lZ μ mx mx')
  (af:bounds len cap a9 ae mx=some (l,h,m))(b:Bool):(Instr.sliceBounds b len cap oM dY mx').run P w=.ok (l,h,m) w/\l<=h/\h<=m/\m<=cap/\(mx=none->m=cap):=by
 unfold bounds at af
 cases em:iJ cap mx with
 |none=>rw[em] at af;cases af
 |some cm=>
  rw[em] at af
  simp only at af
  cases hm:Nat.ble cm cap with
  |false=>rw[hm] at af;cases af
  |true=>
   rw[hm] at af
   simp only at af
   have AE:=Nat.le_of_ble_eq_true hm
   split at af
   · cases af
   · rename_i ah x1
     cases AF:Nat.ble ah cm with
     |false=>rw[AF] at af;cases af
     |true=>
      rw[AF] at af
      simp only at af
      have EM:=Nat.le_of_ble_eq_true AF
      cases el:iJ 0 a9 with
      |none=>rw[el] at af;cases af
      |some bq=>
       rw[el] at af
       simp only at af
       cases an:Nat.ble bq ah with
       |false=>rw[an] at af;cases af
       |true=>
        rw[an] at af
        simp only[Option.some.injEq,Prod.mk.injEq] at af
        obtain⟨rfl,rfl,rfl⟩:=af
        have x2:=Nat.le_of_ble_eq_true an
        have Lx:(dY=none/\mx'=none/\ah=len)\/∃k,dY=some (.int k (ah:Int)):=by
         cases ae with
         |none=>cases dY with
          |some _=>exact iR.elim
          |none=>cases mx with
           |some _=>simp at x1
           |none=>cases mx' with
            |some _=>exact hi.elim
            |none=>simp at x1;exact .inl ⟨rfl,rfl,x1.symm⟩
         |some a=>cases dY with
          |none=>exact iR.elim
          |some v=>
           have fJ:e2 a=some ah:=by cases mx<;>simpa using x1
           obtain⟨k,e⟩:=EK (μ:=μ) fJ iR
           exact .inr ⟨k,by rw[e]⟩
        refine⟨?_,x2,EM,AE,λe=>by rw[e] at em;simp[iJ] at em;exact em.symm⟩
        rcases EL em hi with⟨aC,ax,_⟩|⟨bG,_,_,aC⟩<;>rcases Lx with⟨bp,ds,hh⟩|⟨bF,bp⟩<;>rcases EL el g2 with⟨hv,hM,_⟩|⟨eH,_,_,hv⟩<;>
         first
         |(exfalso;simp[aC] at ds;done)
         |(subst_vars;simp[Instr.sliceBounds,AD AE,AD EM,AD x2])
end
end aw
namespace aw
open Go
section
variable {P:Program} {μ:a8} {H:J} {w:World}
theorem Ly(t:ByteArray)(l h:Nat)(ah:h<=t.size):(t.extract l h).data.toList=List.take (h-l) (g0 l t.data.toList):=by
 rw[lW]
 simp only[ByteArray.data_extract,Array.toList_extract,List.extract_eq_take_drop]
theorem vn{m n:Nat}(h:m<=n):Nat.ble m n=true:=Nat.ble_eq_true_of_le h
theorem AG{len k c:Nat}{a9 ae mx:Option I}{l h m:Nat}(af:bounds len k a9 ae mx=some (l,h,m))(aq:k<=c):bounds len c a9 ae mx=some (l,h,if mx.isNone then c else m):=by
 have fin:∀(cm fY:Nat) (E:Option Nat),cm<=fY->
   (match E with
   |none=>none
   |some ah=>match Nat.ble ah cm with
    |false=>none
    |true=>match iJ 0 a9 with
     |none=>none
     |some l=>match Nat.ble l ah with
      |false=>none
      |true=>some (l,ah,cm))=some (l,h,m)->
   (match E with
   |none=>none
   |some ah=>match Nat.ble ah fY with
    |false=>none
    |true=>match iJ 0 a9 with
     |none=>none
     |some l=>match Nat.ble l ah with
      |false=>none
      |true=>some (l,ah,fY))=some (l,h,fY):=by
  intro cm fY E hm e5
  cases E with
  |none=>cases e5
  |some ah=>
   simp only at e5⊢
   cases aa:Nat.ble ah cm with
   |false=>rw[aa] at e5;cases e5
   |true=>
    rw[aa] at e5
    rw[vn (Nat.le_trans (Nat.le_of_ble_eq_true aa) hm)]
    simp only at e5⊢
    cases an:iJ 0 a9 with
    |none=>rw[an] at e5;cases e5
    |some bq=>
     rw[an] at e5
     simp only at e5⊢
     cases aM:Nat.ble bq ah with
     |false=>rw[aM] at e5;cases e5
     |true=>rw[aM] at e5;simp only[Option.some.injEq,Prod.mk.injEq] at e5⊢;exact⟨e5.1,e5.2.1,trivial⟩
 unfold bounds at af⊢
 cases mx with
 |none=>
  have aC:iJ k none=some k:=rfl
  have ax:iJ c none=some c:=rfl
  rw[aC] at af;rw[ax]
  simp only at af⊢
  rw[vn (Nat.le_refl k)] at af;rw[vn (Nat.le_refl c)]
  simp only[Option.isNone_none,if_true] at af⊢
  cases ae with
  |none=>exact fin k c (some len) aq af
  |some a=>exact fin k c (e2 a) aq af
 |some rm=>
  have aC:iJ k (some rm)=e2 rm:=rfl
  have ax:iJ c (some rm)=e2 rm:=rfl
  rw[aC] at af;rw[ax]
  cases em:e2 rm with
  |none=>rw[em] at af;cases af
  |some cm=>
   rw[em] at af
   simp only at af⊢
   cases aa:Nat.ble cm k with
   |false=>rw[aa] at af;cases af
   |true=>
    rw[aa] at af
    rw[vn (Nat.le_trans (Nat.le_of_ble_eq_true aa) aq)]
    simp only[Option.isNone_some,Bool.false_eq_true,if_false] at af⊢
    have Lz:cm=m:=by
     cases ae<;>simp only at af
     · cases af
     · split at af<;>try cases af
       split at af<;>try cases af
       split at af<;>try cases af
       split at af<;>first|cases af;rfl|cases af
    subst Lz
    cases ae<;>exact af
theorem LA(ah:bc μ H w){t:TypeId}{x:I}{bk:Value}(ab:a1 μ x bk){a9 ae mx:Option I}{oM dY mx':Option Value}(g2:lZ μ a9 oM)(iR:lZ μ ae dY)(hi:lZ μ mx mx'){v:I}
  (h:eu P H t x a9 ae mx=some v):eC P μ H w (Instr.sliceAt t bk oM dY mx') v H:=by
 unfold eu at h
 split at h
 ·
  rename_i s hu
  obtain⟨bs,rfl,rfl⟩:=ab
  cases mx with
  |some _=>cases h
  |none=>
   simp only at h
   cases mx' with
   |some _=>exact hi.elim
   |none=>
    split at h
    · rename_i l af m hx
      cases h
      have br:bs.data.toList.length=bs.size:=Array.length_toList
      rw[br] at hx
      obtain⟨r1,r2,eU,hN,_⟩:=mO (P:=P) (w:=w) g2 iR (μ:=μ) (mx:=none) (mx':=none) trivial hx false
      refine .same ah (v':=.string (bs.extract l af)) ?_ ⟨_,rfl,Ly _ _ _ (by omega)⟩
      simp[Instr.sliceAt,Instr.slice,bx hu,r1]
    · cases h
 ·
  rename_i e hu
  cases ab
  split at h
  · rename_i sz r hs hx
    cases h
    obtain⟨l,af,m⟩:=r
    obtain⟨r1,r2,eU,hN,_⟩:=mO (P:=P) (w:=w) g2 iR hi hx true
    have:m=0/\l=0/\af=0:=by omega
    obtain⟨rfl,rfl,rfl⟩:=this
    exact .same ah (v':=.slice none 0 0) (by simp[Instr.sliceAt,Instr.slice,bx hu,r1,run_sizeOf hs]) rfl
  · cases h
 ·
  rename_i e b off len cap hu
  obtain⟨i,l0,ag⟩:=ab
  cases ag
  split at h
  · rename_i sz l af m hs hx
    cases h
    obtain⟨r1,r2,eU,hN,_⟩:=mO (P:=P) (w:=w) g2 iR hi hx true
    refine .same ah (v':=.slice (some ⟨i.a5,i.base+(if m=l then off else off+l*sz),none⟩) (af-l) (m-l)) ?_ ⟨i,l0,rfl⟩
    by_cases e:m=l
    · simp[Instr.sliceAt,Instr.slice,bx hu,r1,run_sizeOf hs,e]
    · simp[Instr.sliceAt,Instr.slice,bx hu,r1,run_sizeOf hs,e,add_plain,Nat.add_assoc]
  · cases h
 ·
  rename_i e b off len fA hu
  obtain⟨i,l0,c,rfl,pZ,br⟩:=ab
  split at h
  · rename_i sz hs
    split at h
    · rename_i LB
      subst LB
      cases mx with
      |none=>
       cases mx' with
       |some _=>exact hi.elim
       |none=>
        simp only at h
        split at h
        · rename_i l af m hx
          have vo:bounds len c a9 ae none=some (l,af,c):=AG hx pZ
          obtain⟨r1,r2,eU,hN,_⟩:=mO (P:=P) (w:=w) g2 iR (μ:=μ) (mx:=none) (mx':=none) trivial vo true
          obtain⟨_,a3,ck,mP,_⟩:=mO (P:=P) (w:=w) g2 iR (μ:=μ) (mx:=none) (mx':=none) trivial hx true
          have eo:(Instr.sliceAt t (.slice (some ⟨i.a5,i.base+off,none⟩) len c) oM dY none).run P w=.ok (.slice (some (if c=l then⟨i.a5,i.base+off,none⟩ else⟨i.a5,i.base+off+l*sz,none⟩)) (af-l) (c-l)) w:=by
           by_cases e:c=l
           · subst e;simp[Instr.sliceAt,Instr.slice,bx hu,r1,run_sizeOf hs]
           · simp[Instr.sliceAt,Instr.slice,bx hu,r1,run_sizeOf hs,e,add_plain]
          split at h
          · rename_i EN
            subst EN
            cases h
            refine .same ah eo ⟨i,l0,c,?_,by omega,br⟩
            by_cases e:c=0
            · simp[e]
            · simp[e]
          · rename_i EN
            split at h
            · rename_i cj
              cases h
              simp only[Nat.blt_eq] at cj
              refine .same ah eo ⟨i,l0,c-l,?_,by omega,?_⟩
              · rw[if_neg (by omega)];simp[Nat.add_assoc]
              · have:c*sz=l*sz+(c-l)*sz:=by rw[<-Nat.add_mul];congr 1;omega
                omega
            · rename_i cj
              cases h
              have AH:¬l<len:=by simpa[Nat.blt_eq] using cj
              have h0:af-l=0:=by omega
              rw[h0] at eo
              exact .same ah eo ⟨i,l0,rfl,_,c-l,rfl⟩
        · cases h
      |some rm=>
       simp only at h
       split at h
       · rename_i l af m hx
         cases h
         obtain⟨_,a3,ck,mP,_⟩:=mO (P:=P) (w:=w) g2 iR hi hx true
         have vo:bounds len c a9 ae (some rm)=some (l,af,m):=AG hx pZ
         obtain⟨r1,r2,eU,hN,_⟩:=mO (P:=P) (w:=w) g2 iR hi vo true
         refine .same ah (v':=.slice (some ⟨i.a5,i.base+(if m=l then off else off+l*sz),none⟩) (af-l) (m-l)) ?_ ⟨i,l0,rfl⟩
         by_cases e:m=l
         · simp[Instr.sliceAt,Instr.slice,bx hu,r1,run_sizeOf hs,e]
         · simp[Instr.sliceAt,Instr.slice,bx hu,r1,run_sizeOf hs,e,add_plain,Nat.add_assoc]
       · cases h
    · cases h
  · cases h
 ·
  rename_i e b off len hu
  obtain⟨i,l0,rfl,a,c,rfl⟩:=ab
  split at h
  · rename_i sz r hs hx
    cases h
    obtain⟨l,af,m⟩:=r
    obtain⟨_,a3,ck,mP,oN⟩:=mO (P:=P) (w:=w) g2 iR hi hx true
    have:m=0/\l=0/\af=0:=by omega
    obtain⟨rfl,rfl,rfl⟩:=this
    have vo:bounds 0 c a9 ae mx=some (0,0,(if mx.isNone then c else 0)):=AG hx (Nat.zero_le _)
    obtain⟨r1,r2,eU,hN,_⟩:=mO (P:=P) (w:=w) g2 iR hi vo true
    refine .same ah (v':=.slice (some a) 0 ((if mx.isNone then c else 0)-0)) ?_ ⟨i,l0,rfl,a,_,rfl⟩
    have aX:a.add (0*sz)=a:=by simp[Addr.add]
    simp[Instr.sliceAt,Instr.slice,bx hu,r1,run_sizeOf hs,Addr.add]
  · cases h
 ·
  rename_i n e b off hu
  obtain⟨i,l0,rfl⟩:=ab
  split at h
  · rename_i sz l af m hs hx
    cases h
    obtain⟨r1,r2,eU,hN,_⟩:=mO (P:=P) (w:=w) g2 iR hi hx false
    refine .same ah (v':=.slice (some ⟨i.a5,i.base+(if m=l then off else off+l*sz),none⟩) (af-l) (m-l)) ?_ ⟨i,l0,rfl⟩
    by_cases e:m=l
    · simp[Instr.sliceAt,Instr.sureAddr,bx hu,r1,run_sizeOf hs,e]
    · simp[Instr.sliceAt,Instr.sureAddr,bx hu,r1,run_sizeOf hs,e,add_plain,Nat.add_assoc]
  · cases h
 ·
  rename_i arr b off hu
  obtain⟨i,l0,rfl⟩:=ab
  split at h
  · rename_i n e nH
    split at h
    · rename_i sz l af m hs hx
      cases h
      obtain⟨r1,r2,eU,hN,_⟩:=mO (P:=P) (w:=w) g2 iR hi hx false
      refine .same ah (v':=.slice (some ⟨i.a5,i.base+(if m=l then off else off+l*sz),none⟩) (af-l) (m-l)) ?_ ⟨i,l0,rfl⟩
      by_cases e:m=l
      · simp[Instr.sliceAt,Instr.slice,asAddr,bx hu,bx nH,r1,run_sizeOf hs,e]
      · simp[Instr.sliceAt,Instr.slice,asAddr,bx hu,bx nH,r1,run_sizeOf hs,e,add_plain,Nat.add_assoc]
    · cases h
  · cases h
 · cases h
theorem p1{t:TypeId}{off:Nat}{cs:List I}{l:List Value}(an:bN μ cs l){v:I}(h:jR P t cs off=some v):∃u,(part t ⟨l⟩ off).run P w=.ok u w/\a1 μ v u:=by
 unfold jR at h
 split at h
 · rename_i n aX aG
   split at h
   · rename_i r ai
     cases h
     rw[lW] at ai
     obtain⟨aa,rfl⟩:=ri _ _ _ ai
     refine⟨.agg ⟨(l.drop off).take n⟩,?_,⟨_,rfl,?_⟩⟩
     · simp[part,tn aX,run_sizeOf aG,List.extract_eq_take_drop]
     · refine bN.vb (by have:=an.length;simp[this]) λj a aD=>?_
       rw[List.getElem?_take] at aD⊢
       split at aD
       · rename_i AI
         rw[if_pos AI]
         rw[List.getElem?_drop] at aD⊢
         exact an.get aD
       · cases aD
   · cases h
 · rename_i _ aX
   rw[oK] at h
   obtain⟨u,hu,ai⟩:=an.get h
   refine⟨u,?_,ai⟩
   simp[part,tn aX,hu]
 · cases h
theorem LC(ah:bc μ H w){t:TypeId}{b2:Array Field}{fd:Field}{f:Nat}(hu:P.underlying t=some (.struct b2))(hf:b2[f]? =some fd){cs:List I}{bk:Value}(ab:a1 μ (.agg cs) bk){v:I}
  (h:jR P fd.type cs fd.offset=some v):eC P μ H w (Instr.field t bk f) v H:=by
 obtain⟨l,rfl,an⟩:=ab
 obtain⟨u,aa,ad⟩:=p1 (P:=P) (w:=w) an h
 exact .same ah (v':=u) (by simp[Instr.field,bx hu,hf,asAgg,aa]) ad
theorem LD(ah:bc μ H w){s:TypeId}{b2:Array Field}{fd:Field}{f n b off:Nat}(hu:P.underlying s=some (.struct b2))(hf:b2[f]? =some fd)(aG:cV P fd.type=some n)(vp:n≠0){bk:Value}
  (ab:a1 μ (.ptr b off) bk):eC P μ H w (Instr.fieldAt s bk f) (.ptr b (off+fd.offset)) H:=by
 obtain⟨i,ae,rfl⟩:=ab
 refine .same ah (v':=.pointer (some ⟨i.a5,i.base+(off+fd.offset),none⟩)) ?_ ⟨i,ae,rfl⟩
 simp[Instr.fieldAt,bx hu,hf,Instr.sureAddr,fieldPlace,run_sizeOf aG,vp,add_plain,Nat.add_assoc]
theorem LF(ah:bc μ H w){t e:TypeId}{b off n k sz:Nat}{c:cf}{b3:IntKind}(hu:P.underlying t=some (.slice e))(hs:cV P e=some sz){bk:Value}(ab:a1 μ (.slice b off n c) bk)(aq:k<n):
  eC P μ H w (Instr.indexAt t bk (.int b3 (k:Int))) (.ptr b (off+k*sz)) H:=by
 obtain⟨i,ae,ag⟩:=ab
 have nI:∃cap,bk=.slice (some ⟨i.a5,i.base+off,none⟩) n cap:=by
  cases c with
  |exact c=>exact⟨c,ag⟩
  |aN fA=>obtain⟨c,h,_⟩:=ag;exact⟨c,h⟩
  |dead=>obtain⟨h0,_⟩:=ag;omega
 obtain⟨cap,rfl⟩:=nI
 refine .same ah (v':=.pointer (some ⟨i.a5,i.base+(off+k*sz),none⟩)) ?_ ⟨i,ae,rfl⟩
 simp only[Instr.indexAt,asIntOf,Sem.run_bind,Sem.run_pure,Result.andThen_ok,bx hu]
 rw[if_pos ⟨by omega,by omega⟩]
 simp[run_sizeOf hs,add_plain,Nat.add_assoc]
theorem LG(ah:bc μ H w){t e:TypeId}{b off n k sz:Nat}{b3:IntKind}(hu:P.underlying t=some (.array n e))(hs:cV P e=some sz){bk:Value}(ab:a1 μ (.ptr b off) bk)(aq:k<n):
  eC P μ H w (Instr.indexAt t bk (.int b3 (k:Int))) (.ptr b (off+k*sz)) H:=by
 obtain⟨i,ae,rfl⟩:=ab
 refine .same ah (v':=.pointer (some ⟨i.a5,i.base+(off+k*sz),none⟩)) ?_ ⟨i,ae,rfl⟩
 simp only[Instr.indexAt,asIntOf,Sem.run_bind,Sem.run_pure,Result.andThen_ok,bx hu,Instr.sureAddr]
 rw[if_pos ⟨by omega,by omega⟩]
 simp[run_sizeOf hs,add_plain,Nat.add_assoc]
theorem LH(ah:bc μ H w){t e:TypeId}{n k sz:Nat}{b3:IntKind}{cs:List I}(hu:P.underlying t=some (.array n e))(hs:cV P e=some sz){bk:Value}(ab:a1 μ (.agg cs) bk)(aq:k<n){v:I}
  (h:jR P e cs (k*sz)=some v):eC P μ H w (Instr.index t bk (.int b3 (k:Int))) v H:=by
 obtain⟨l,rfl,an⟩:=ab
 obtain⟨u,aa,ad⟩:=p1 (P:=P) (w:=w) an h
 refine .same ah (v':=u) ?_ ad
 simp only[Instr.index,asIntOf,Sem.run_bind,Sem.run_pure,Result.andThen_ok,bx hu]
 rw[if_pos ⟨by omega,by omega⟩]
 simp[run_sizeOf hs,aa]
theorem LI(ah:bc μ H w){t:TypeId}{k:Nat}{b3:IntKind}{s:List UInt8}(hu:P.underlying t=some .string){bk:Value}(ab:a1 μ (.str s) bk){c:UInt8}(h:nth k s=some c):
  eC P μ H w (Instr.index t bk (.int b3 (k:Int))) (.int .u8 (Int.ofNat c.toNat)) H:=by
 obtain⟨bs,rfl,rfl⟩:=ab
 rw[oK] at h
 refine .same ah (v':=.int .u8 (c.toNat:Int)) ?_ rfl
 have aq:k<bs.data.size:=by
  rcases Nat.lt_or_ge k bs.data.size with ak|ak
  · exact ak
  · rw[List.getElem?_eq_none (by simpa using ak)] at h;cases h
 have aj:bs[k]? =some c:=by
  rw[Array.getElem?_toList] at h
  rw[<-h]
  show(if h:k<bs.size then some bs[k] else none)=_
  have eP:k<bs.size:=aq
  rw[dif_pos eP,Array.getElem?_eq_getElem aq];rfl
 simp only[Instr.index,asIntOf,Sem.run_bind,Sem.run_pure,Result.andThen_ok,bx hu]
 rw[if_pos (by omega)]
 simp[aj]
end
end aw
namespace aw
open Go
section
variable {P:Program} {μ:a8} {H:J} {w:World}
theorem x3(μ:a8):∀l:List UInt8,bN μ (cD l) (l.map λb=>.int .u8 b.toNat)
 |[]=>rfl
 |b::l=>⟨_,_,rfl,rfl,x3 μ l⟩
theorem LJ(t:ByteArray):(t.extract 0 t.size)=t:=by
 obtain⟨d⟩:=t
 simp[ByteArray.ext_iff,ByteArray.data_extract,ByteArray.size]
theorem x4(ah:bc μ H w){size n:Nat}{x:I}{bk:Value}(ab:a1 μ x bk){cs:List I}(h:ho H size x=some (n,cs)):
  (Builtin.lenOf bk).run P w=.ok n w/\(∃us:List Value,(Builtin.firstCells size n bk).run P w=.ok ⟨us⟩ w/\bN μ cs us):=by
 cases x<;>simp only[ho] at h<;>try cases h
 · split at h<;>try cases h
   obtain⟨bs,rfl,rfl⟩:=ab
   refine⟨by rw[show bs.data.toList.length=bs.size from Array.length_toList];rfl,_,?_,x3 μ _⟩
   have br:bs.data.toList.length=bs.size:=Array.length_toList
   simp only[Builtin.firstCells,Sem.run_pure,br,LJ]
   congr 1
   apply Array.ext'
   simp
 · cases ab
   exact⟨rfl,[],rfl,rfl⟩
 · rename_i b off len cap
   obtain⟨i,ae,ag⟩:=ab
   cases cap with
   |dead=>
    obtain⟨rfl,a,c,rfl⟩:=ag
    simp at h
    obtain⟨rfl,rfl⟩:=h
    exact⟨rfl,[],by simp[Builtin.firstCells,_root_.Go.loadCells,loadCellsFrom],rfl⟩
   |exact c=>
    cases ag
    simp only at h
    split at h
    · rename_i bH an
      cases h
      obtain⟨us,aa,ad⟩:=pV (P:=P) ah ae an
      exact⟨rfl,us,by simp only[Builtin.firstCells];exact aa,ad⟩
    · cases h
   |aN fA=>
    obtain⟨c,rfl,_⟩:=ag
    simp only at h
    split at h
    · rename_i bH an
      cases h
      obtain⟨us,aa,ad⟩:=pV (P:=P) ah ae an
      exact⟨rfl,us,by simp only[Builtin.firstCells];exact aa,ad⟩
    · cases h
theorem LK{z:Value}(n:Nat){lY:List I}(aT:bN μ lY z.cells.toList):bN μ (ej n lY) (Builtin.zeroCells z.cells n).toList:=by
 have:=vj aT rfl n
 have an:=aT.length
 have ar:z.cells.toList.length=z.cells.size:=by simp
 rw[an,ar] at this
 exact this
theorem LL(need old:Nat)(h:old<need):Builtin.nextslicecap need old<=4*need+2048:=by
 unfold Builtin.nextslicecap
 split
 · omega
 · split
   · omega
   · have aj:∀rounds c,c<=2*need+768->(∀k,k<=rounds->True)->Builtin.growBy need rounds c<=4*need+2048:=by
       intro rounds
       induction rounds with
       |zero=>intro c ag _;simp only[Builtin.growBy];omega
       |succ r bg=>
        intro c ag _
        simp only[Builtin.growBy]
        split
        · omega
        · rename_i cj
          exact bg _ (by omega) (λ_ _=>trivial)
     exact aj 4 old (by omega) (λ_ _=>trivial)
theorem bc.LM{w':World}(h:bc μ H w){b:Nat}{o o':ca}{i:dL}(af:H.get b=some o)(gn:o.lV=false)(ae:μ b=some i)
  (hs:w'.heap.size=w.heap.size)(a2:∀r,r≠i.a5->w'.heap[r]? =w.heap[r]?)(vd:w'.os=w.os)(ve:w'.output=w.output)(Ay:w'.tape=w.tape)(base sz:Nat)
  (ai:lU (fr μ H.n ⟨i.a5,base,sz⟩) o' ⟨i.a5,base,sz⟩ w')(hdr:w.drawn<=w'.drawn:=by first|exact Nat.le_refl _|assumption):
  bc (fr μ H.n ⟨i.a5,base,sz⟩) ((H.set b none).push o') w'/\bO μ H w (fr μ H.n ⟨i.a5,base,sz⟩) ((H.set b none).push o') w':=by
 have hle:=h.mK ⟨i.a5,base,sz⟩
 have EO:b<H.n:=(h.lt b i ae).1
 have tm:H.get b≠none:=by rw[af];simp
 have eV:∀c,((H.set b none).push o').get c=if c=H.n then some o' else if c=b then none else H.get c:=λc=>by
  rw[J.ec,J.bL];rfl
 have oJ:∀c,c<H.n->((H.set b none).push o').get c≠none->c≠b/\H.get c≠none:=λc ag aG=>by
  rw[eV,if_neg (by omega)] at aG
  by_cases e:c=b
  · rw[if_pos e] at aG;exact absurd rfl aG
  · rw[if_neg e] at aG;exact⟨e,aG⟩
 constructor
 · refine⟨λc mL j ag aD=>?_,λc d j k ag az aD aq e=>?_,λc j aD=>?_,λc ag=>?_⟩
   · rw[eV] at ag
     by_cases e:c=H.n
     · rw[if_pos e] at ag;subst e;cases ag;rw[fs] at aD;cases aD;exact ai
     · rw[if_neg e] at ag;rw[gh _ _ e] at aD
       by_cases ax:c=b
       · rw[if_pos ax] at ag;cases ag
       · rw[if_neg ax] at ag
         exact(h.rel c mL j ag aD).mono hle (a2 _ λcx=>ax (h.inj c b j i (by rw[ag];simp) ⟨o,af,gn⟩ aD ae cx))
   · have side:∀c j,c≠H.n->((H.set b none).push o').get c≠none->fr μ H.n ⟨i.a5,base,sz⟩ c=some j->j.a5≠i.a5:=λc j EP ag aD e=>by
       rw[gh _ _ EP] at aD
       obtain⟨aR,a3⟩:=oJ c (h.lt c j aD).1 ag
       exact aR (h.inj c b j i a3 ⟨o,af,gn⟩ aD ae e)
     by_cases aC:c=H.n
     · by_cases ax:d=H.n
       · rw[aC,ax]
       · subst aC;rw[fs] at aD;cases aD
         exact absurd e.symm (side d k ax (by obtain⟨x,ab,_⟩:=az;rw[ab];simp) aq)
     · by_cases ax:d=H.n
       · subst ax;rw[fs] at aq;cases aq
         exact absurd e (side c j aC ag aD)
       · rw[gh _ _ aC] at aD;rw[gh _ _ ax] at aq
         exact h.inj c d j k (oJ c (h.lt c j aD).1 ag).2 (by
          obtain⟨x,ab,nF⟩:=az
          rw[eV,if_neg ax] at ab
          split at ab
          · cases ab
          · exact⟨x,ab,nF⟩) aD aq e
   · by_cases e:c=H.n
     · subst e;rw[fs] at aD;cases aD
       have:=(h.lt b i ae).2
       exact⟨by simp,by rw[hs];exact this⟩
     · rw[gh _ _ e] at aD
       have:=h.lt c j aD
       exact⟨by simp;omega,by rw[hs];exact this.2⟩
   · simp at ag
     rw[eV,if_neg (by omega),if_neg (by omega)];exact h.bound c (by omega)
 · refine⟨hle,by omega,by simp,λc ag aG=>(oJ c ag aG).2,λc ag hm=>(by rw[eV,if_neg (by omega),if_neg];intro e;subst e;rw[ae] at hm;cases hm),λr _ aG=>a2 r λe=>aG b i tm ae e.symm,λc j aa ad=>?_,λc mL j ag pS aD=>?_,vd,ve,Ay,hdr⟩
   · by_cases e:c=H.n
     · subst e;rw[fs] at ad;cases ad
       exact⟨Nat.le_refl _,.inr ⟨b,o,i,af,gn,ae,rfl⟩⟩
     · rw[gh _ _ e,aa] at ad;cases ad
   · have df:c≠b:=by intro e;subst e;rw[af] at ag;cases ag;rw[gn] at pS;cases pS
     have EP:=(h.lt c j aD).1
     refine⟨by rw[eV,if_neg (by omega),if_neg df];exact ag,a2 _ λe=>df (h.inj c b j i (by rw[ag];simp) ⟨o,af,gn⟩ aD ae e)⟩
theorem bc.kill(h:bc μ H w){b:Nat}{o:ca}{i:dL}(af:H.get b=some o)(gn:o.lV=false)(ae:μ b=some i):
  bc μ (H.set b none) w/\bO μ H w μ (H.set b none) w:=by
 have oJ:∀c,(H.set b none).get c≠none->H.get c≠none:=λc aG=>by
  rw[J.bL] at aG
  by_cases e:c=b
  · rw[if_pos e] at aG;exact absurd rfl aG
  · rw[if_neg e] at aG;exact aG
 constructor
 · refine⟨λc mL j ag aD=>?_,λc d j k ag az=>h.inj c d j k (oJ c ag) (by
     obtain⟨x,ab,nF⟩:=az
     rw[J.bL] at ab
     split at ab
     · cases ab
     · exact⟨x,ab,nF⟩),h.lt,λc ag=>?_⟩
   · rw[J.bL] at ag
     by_cases e:c=b
     · rw[if_pos e] at ag;cases ag
     · rw[if_neg e] at ag;exact h.rel c mL j ag aD
   · rw[J.bL]
     split
     · rfl
     · exact h.bound c ag
 · refine⟨en.refl μ,Nat.le_refl _,Nat.le_refl _,λc _ ag=>oJ c ag,λc _ hm=>(by rw[J.bL,if_neg];intro e;subst e;rw[ae] at hm;cases hm),λ_ _ _=>rfl,λc j aa ad=>(by rw[aa] at ad;cases ad),λc mL j ag pS aD=>⟨?_,rfl⟩,rfl,rfl,rfl,Nat.le_refl _⟩
   have df:c≠b:=by intro e;subst e;rw[af] at ag;cases ag;rw[gn] at pS;cases pS
   rw[J.bL,if_neg df];exact ag
theorem bc.drew(h:bc μ H w):bc μ H w.drew:=h.of_heap rfl
theorem bO.drew:bO μ H w μ H w.drew:=bO.of_heap rfl rfl rfl rfl
theorem LN{need bytes:Nat}(h:ks need bytes=true):(4*need+2048)*bytes<=281474976710656/\need<=281474976710656:=by
 simp only[ks,Nat.ble_eq] at h
 have aa:(4*need+2048)*bytes<=(4*need+2048)*(bytes+1):=Nat.mul_le_mul_left _ (by omega)
 have ad:(4*need+2048)*1<=(4*need+2048)*(bytes+1):=Nat.mul_le_mul_left _ (by omega)
 refine⟨Nat.le_trans aa h,?_⟩
 have ar:=Nat.le_trans ad h
 rw[Nat.mul_one] at ar
 generalize 281474976710656=q at ar⊢
 omega
theorem LO{sT e:TypeId}{xT:Option TypeId}{i:TypeInfo}{z:Value}{argTypes:Array TypeId}{ty:TypeId}(h0:argTypes[0]? =some sT)(aa:argTypes[1]? =xT)(hu:P.underlying sT=some (.slice e))(ab:ny P xT=true)(ae:P.info? e=some i)
  (aT:∀w:World,(zeroValue e).run P w=.ok z w){base:Option Addr}{sLen sCap n:Nat}{bk:Value}(an:(Builtin.lenOf bk).run P w=.ok n w){us old:List Value}(hold:(Builtin.firstCells i.size sLen (.slice base sLen sCap)).run P w.drew=.ok ⟨old⟩ w.drew)
  (jY:(Builtin.firstCells i.size n bk).run P w.drew=.ok ⟨us⟩ w.drew)(cj:sCap<sLen+n)(rn:ks (sLen+n) i.bytes=true):
  ∃kA,sLen+n<=kA/\(Builtin.append_ argTypes ty #[.slice base sLen sCap,bk]).run P w=
   .ok (.slice (some ⟨w.heap.size,0,none⟩) (sLen+n) kA) (w.drew.alloc (.cells (⟨old⟩++⟨us⟩++Builtin.zeroCells z.cells (kA-(sLen+n))) e)):=by
 obtain⟨cm,fY⟩:=LN rn
 have LP:=LL (sLen+n) sCap cj
 have tp:¬(Builtin.nextslicecap (sLen+n) sCap*i.bytes>2^48):=by
  have aa:Builtin.nextslicecap (sLen+n) sCap*i.bytes<=(4*(sLen+n)+2048)*i.bytes:=Nat.mul_le_mul_right _ LP
  have ad:(2:Nat)^48=281474976710656:=by rfl
  rw[ad]
  exact Nat.not_lt.2 (Nat.le_trans aa cm)
 have LQ:IntKind.max .i64=9223372036854775807:=rfl
 have vq:¬(((sLen+n:Nat):Int)>IntKind.i64.max):=by rw[LQ];omega
 have ER:¬(sLen+n<=sCap):=by omega
 have br:∀w:World,(_root_.Go.sizeOf e).run P w=.ok i.size w:=λw=>by simp[_root_.Go.sizeOf,run_typeInfo ae]
 have x5:(Question.appendCap (sLen+n) sCap e).forced=false:=rfl
 have x6:∀w:World,(typeInfo e).run P w=.ok i w:=λw=>run_typeInfo ae
 have x7:∀(c:Nat) (cs:Array Value),(_root_.Go.newRow e cs).run P w.drew=.ok ⟨w.heap.size,0,none⟩ (w.drew.alloc (.cells cs e)):=λc cs=>rfl
 refine⟨(Question.appendCap (sLen+n) sCap e).cut (w.tape w.drawn (Question.appendCap (sLen+n) sCap e)),by simp[Question.cut],?_⟩
 cases xT with
 |none=>
  simp only[Builtin.append_,h0,aa,List.getElem?_toArray,List.getElem?_cons_zero,List.getElem?_cons_succ,Sem.run_bind,bx hu,Result.andThen_ok,br,Sem.run_pure,an,Bool.false_eq_true,if_false,if_neg ER,x6,vq,false_and,if_neg tp,
   run_choose,x5,run_askRoom,World.drew_eq,hold,jY,Bool.not_false,if_true,aT,x7 0]
 |some AJ=>
  simp only[ny] at ab
  cases az:P.underlying AJ with
  |none=>rw[az] at ab;cases ab
  |some d=>
   rw[az] at ab
   cases d<;>first
   |(cases ab;done)
   |simp only[Builtin.append_,h0,aa,List.getElem?_toArray,List.getElem?_cons_zero,List.getElem?_cons_succ,Sem.run_bind,bx hu,bx az,Result.andThen_ok,br,Sem.run_pure,an,Bool.false_eq_true,if_false,if_neg ER,x6,vq,false_and,if_neg tp,
    run_choose,x5,run_askRoom,World.drew_eq,hold,jY,Bool.not_false,if_true,aT,x7 0]
theorem vr{sT e:TypeId}{xT:Option TypeId}{i:TypeInfo}{argTypes:Array TypeId}{ty:TypeId}(h0:argTypes[0]? =some sT)(aa:argTypes[1]? =xT)(hu:P.underlying sT=some (.slice e))(ab:ny P xT=true)(ae:P.info? e=some i)
  {base:Option Addr}{sLen sCap n:Nat}{bk:Value}(an:(Builtin.lenOf bk).run P w=.ok n w){us:List Value}
  (jY:(Builtin.firstCells i.size n bk).run P w=.ok ⟨us⟩ w)(hle:sLen+n<=sCap):
  (Builtin.append_ argTypes ty #[.slice base sLen sCap,bk]).run P w=match base with
   |some a=>((_root_.Go.storeCells (a.add (sLen*i.size)) us).run P w).andThen λ_ w'=>.ok (.slice base (sLen+n) sCap) w'
   |none=>.ok (.slice base (sLen+n) sCap) w:=by
 have br:∀w:World,(_root_.Go.sizeOf e).run P w=.ok i.size w:=λw=>by simp[_root_.Go.sizeOf,run_typeInfo ae]
 cases xT with
 |none=>
  cases base<;>simp only[Builtin.append_,h0,aa,List.getElem?_toArray,List.getElem?_cons_zero,List.getElem?_cons_succ,Sem.run_bind,bx hu,Result.andThen_ok,br,Sem.run_pure,an,Bool.false_eq_true,if_false,if_pos hle,Bool.not_false,if_true,jY]
 |some AJ=>
  simp only[ny] at ab
  cases az:P.underlying AJ with
  |none=>rw[az] at ab;cases ab
  |some d=>
   rw[az] at ab
   cases d<;>first
   |(cases ab;done)
   |cases base<;>simp only[Builtin.append_,h0,aa,List.getElem?_toArray,List.getElem?_cons_zero,List.getElem?_cons_succ,Sem.run_bind,bx hu,bx az,Result.andThen_ok,br,Sem.run_pure,an,Bool.false_eq_true,if_false,if_pos hle,Bool.not_false,if_true,jY]
theorem LR{l:List I}(h:l.all I.bC=true):∀a∈l,a.bC=true:=λa aX=>List.all_eq_true.1 h a aX
theorem AK(ah:bc μ H w){sT e:TypeId}{xT:Option TypeId}{i:TypeInfo}{z:I}{argTypes:Array TypeId}{ty:TypeId}(h0:argTypes[0]? =some sT)(aa:argTypes[1]? =xT)(hu:P.underlying sT=some (.slice e))(ab:ny P xT=true)
  (ae:P.info? e=some i)(aT:dN P e=some z){base:Option Addr}{sLen sCap n:Nat}{x:I}{bk:Value}(ES:a1 μ x bk){cs:List I}(fM:ho H i.size x=some (n,cs)){old:List I}
  (hold:∃us:List Value,(Builtin.firstCells i.size sLen (.slice base sLen sCap)).run P w.drew=.ok ⟨us⟩ w.drew/\bN μ old us)(vt:old.length=sLen*i.size)(fj:cs.length=n*i.size)(cj:sCap<sLen+n){v:I}{H1 aO:J}(ky:bc μ H1 w)(LS:bO μ H w μ H1 w)
  {fz:Nat}(aj:jz H1 e i.bytes i.size (sLen+n) z (old++cs) fz=some (v,aO)):eC P μ H w (Builtin.append_ argTypes ty #[.slice base sLen sCap,bk]) v aO:=by
 obtain⟨eQ,ET,rfl,af⟩:=kz (P:=P) (w:=w) aT
 have LU:∀w:World,(zeroValue e).run P w=.ok eQ w:=λw=>by
  unfold dN at aT
  simp only[ae] at aT
  cases EU:i.zero with
  |none=>rw[EU] at aT;cases aT
  |some LV=>
   have aR:∀w:World,(zeroValue e).run P w=.ok LV w:=λw=>by simp[zeroValue,run_typeInfo ae,EU]
   rw[aR] at ET
   cases ET
   exact aR w
 obtain⟨an,us,kB,jZ⟩:=x4 (P:=P) ah ES fM
 obtain⟨_,p2,LW,EV⟩:=x4 (P:=P) ah.drew ES fM
 obtain⟨os,vd,EW⟩:=hold
 unfold jz at aj
 split at aj
 · rename_i ag
   simp only[Bool.and_eq_true] at ag
   obtain⟨⟨rn,mM⟩,eO⟩:=ag
   cases aj
   obtain⟨kA,x8,LX⟩:=LO (P:=P) (w:=w) (ty:=ty) h0 aa hu ab ae LU an vd LW cj rn
   have hO:=(iP μ eQ).cells af
   have LY:=Nat.eq_of_beq_eq_true mM
   have LZ:eQ.cells.size=i.size:=by have:=hO.length;rw[LY] at this;simpa using this.symm
   have L0:bN μ (old++cs) (os++p2):=EW.append EV
   have L1:os.length=sLen*i.size:=by rw[<-EW.length,vt]
   have L2:p2.length=n*i.size:=by rw[<-EV.length,fj]
   have hmul:(sLen+n)*i.size=sLen*i.size+n*i.size:=Nat.add_mul _ _ _
   have EX:kA*i.size=(sLen+n)*i.size+(kA-(sLen+n))*i.size:=by rw[<-Nat.add_mul,Nat.add_sub_of_le x8]
   have L3:0+kA*i.size=((⟨os⟩:Array Value)++⟨p2⟩++Builtin.zeroCells eQ.cells (kA-(sLen+n))).size:=by
    have aR:(⟨os⟩:Array Value).size=sLen*i.size:=L1
    have a3:(⟨p2⟩:Array Value).size=n*i.size:=L2
    have ck:(Builtin.zeroCells eQ.cells (kA-(sLen+n))).size=(kA-(sLen+n))*i.size:=by
     unfold Builtin.zeroCells;rw[Array.size_map,Array.size_range,LZ]
    rw[Array.size_append,Array.size_append,aR,a3,ck,EX,hmul]
    omega
   have hle:=ky.drew.mK ⟨w.heap.size,0,kA*i.size⟩
   obtain⟨r1,r2⟩:=ky.drew.alloc (.cells (old++cs) e .aN 0 fz) (.cells (⟨os⟩++⟨p2⟩++Builtin.zeroCells eQ.cells (kA-(sLen+n))) e) (kA*i.size)
    ⟨_,0,0,World.heap_alloc_new _ _,λj a aD=>by
      obtain⟨u,k_,ai⟩:=L0.get aD
      refine⟨u,?_,ai.mono hle⟩
      have vu:j<(os++p2).length:=by
       rcases Nat.lt_or_ge j (os++p2).length with h|h
       · exact h
       · rw[List.getElem?_eq_none h] at k_;cases k_
      rw[Nat.zero_add,Array.getElem?_append_left (by simpa using vu)]
      simpa using k_,L3,by
      refine⟨?_,λj _ _ h=>by omega⟩
      simp[vt,fj];omega⟩
   refine⟨_,_,_,LX,⟨_,fs _ _ _,kA,rfl,x8,by simp⟩,r1,?_⟩
   exact LS.trans ah ky (bO.drew.trans ky ky.drew r2)
 · cases aj
end
end aw
