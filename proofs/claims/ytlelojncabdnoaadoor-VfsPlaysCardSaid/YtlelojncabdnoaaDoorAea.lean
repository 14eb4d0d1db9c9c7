/-
  THE ABSTRACT EVALUATOR (the evaluator's definitions; values and memory): a deterministic semantics of loaded code, and the proof that its runs are runs of the program in the model, whatever the tape draws. No condition.
-/
import GoSem.Step
import Derived.Calls
import Derived.Laws.Sem
import Derived.Laws.World
set_option linter.unusedVariables false
set_option linter.unusedSimpArgs false
namespace aS
open Go
inductive cb where
 |exact(n:Nat)
 |aH (fx:Nat)
 |dead
inductive I where
 |bad
 |bool (b:Bool)
 |int (k:IntKind) (n:Int)
 |str (s:List UInt8)
 |c_
 |ptr (b off:Nat)
 |bn
 |slice (b off len:Nat) (cap:cb)
 |fy
 |map (r:Nat)
 |h5
 |fn (f:Nat) (first caps:List I)
 |b7 (l:Nat)
 |ej
 |iface (t:Nat) (v:I)
 |agg (cs:List I)
 |aF (vs:List I)
 deriving Inhabited
def I.ca:I->Bool
 |.bad|.agg _|.aF _=>false
 |_=>true
def I.cells:I->List I
 |.agg cs=>cs
 |v=>[v]
inductive ho where
 |here|l (p:ho)|r (p:ho)
inductive aN where
 |leaf
 |node (l:aN) (v:I) (r:aN)
def uO:Nat->Nat->ho
 |0,_=>.here
 |f+1,n=>match n with
  |0=>.here
  |m+1=>match Nat.mod m 2 with
   |0=>.l (uO f (Nat.div m 2))
   |_=>.r (uO f (Nat.div m 2))
def fA(n:Nat):ho:=uO n n
def aN.get:ho->aN->I
 |.here,.node _ v _=>v
 |.l p,.node l _ _=>get p l
 |.r p,.node _ _ r=>get p r
 |_,.leaf=>.bad
def aN.Ak(l:aN)(v:I)(r:aN):aN:=match l with
 |.leaf=>.node .leaf v r
 |.node a b c=>.node (.node a b c) v r
def aN.Al(l:aN)(v:I)(r:aN):aN:=match r with
 |.leaf=>.node l v .leaf
 |.node a b c=>.node l v (.node a b c)
def aN.set:ho->I->aN->aN
 |.here,x,.node l _ r=>.node l x r
 |.here,x,.leaf=>.node .leaf x .leaf
 |.l p,x,.node l v r=>aN.Ak (set p x l) v r
 |.l p,x,.leaf=>aN.Ak (set p x .leaf) .bad .leaf
 |.r p,x,.node l v r=>aN.Al l v (set p x r)
 |.r p,x,.leaf=>aN.Al .leaf .bad (set p x .leaf)
inductive e3 where
 |own|aH|ro|fz
 deriving DecidableEq
structure dj where
 key:I
 val:I
 born:Nat
inductive bw where
 |call (f:Nat) (args:List I)
 |collected (r:Nat)
inductive b8 where
 |cells (cs:List I) (el:Nat) (k:e3) (bB ag:Nat)
 |map (es:List dj) (clock:Nat)
 |oG (s:List UInt8) (pos:Nat)
 |mapIter (m:Option Nat) (since:Nat) (seen:List Nat) (last:Nat)
 |loop (st:LoopState) (e4:Option Code) (fn:Nat) (kW:aN) (params:List Nat) (assign body:Code) (defers:Nat)
 |defrd (calls:Option (List bw))
 |raw (o:Obj)
inductive eB where
 |leaf
 |node (l:eB) (v:Option b8) (r:eB)
def eB.get:eB->Nat->Option b8
 |.leaf,_=>none
 |.node l v r,n=>match n with
  |0=>v
  |m+1=>match Nat.mod m 2 with
   |0=>get l (Nat.div m 2)
   |_=>get r (Nat.div m 2)
def eB.kp:Nat->eB->Nat->Option b8->eB
 |0,t,_,_=>t
 |f+1,.leaf,n,x=>match n with
  |0=>.node .leaf x .leaf
  |m+1=>match Nat.mod m 2 with
   |0=>.node (kp f .leaf (Nat.div m 2) x) none .leaf
   |_=>.node .leaf none (kp f .leaf (Nat.div m 2) x)
 |f+1,.node l v r,n,x=>match n with
  |0=>.node l x r
  |m+1=>match Nat.mod m 2 with
   |0=>.node (kp f l (Nat.div m 2) x) v r
   |_=>.node l v (kp f r (Nat.div m 2) x)
structure J where
 t:eB
 n:Nat
def J.get(h:J)(b:Nat):Option b8:=h.t.get b
def J.set(h:J)(b:Nat)(o:Option b8):J:=⟨eB.kp (b+1) h.t b o,h.n⟩
def J.push(h:J)(o:b8):J:=⟨eB.kp (h.n+1) h.t h.n (some o),h.n+1⟩
inductive iT where
 |val (v:I) (h:J)
 |bu (v:I) (h:J)
 |call (f:Nat) (args:List I) (h:J)
 |b7 (l:Nat) (args:List I) (h:J)
 |mf (d:bw)
 |qY
 |fail (h6:String)
inductive bM where
 |ret (v:I) (h:J)
 |bu (v:I) (h:J)
 |fail (h6:String)
mutual
def mT:Value->I
 |.bool b=>.bool b
 |.int k n=>.int k n
 |.string s=>.str s.data.toList
 |.pointer none=>.c_
 |.slice none 0 0=>.bn
 |.map none=>.fy
 |.nilFunc=>.h5
 |.nilIface=>.ej
 |.agg ⟨cs⟩=>.agg (xz cs)
 |.tuple ⟨vs⟩=>.aF (xz vs)
 |_=>.bad
def xz:List Value->List I
 |[]=>[]
 |v::vs=>mT v::xz vs
end
def nth{α:Type}:Nat->List α->Option α
 |_,[]=>none
 |0,a::_=>some a
 |n+1,_::l=>nth n l
def takeN:Nat->List I->Option (List I)
 |0,_=>some []
 |_+1,[]=>none
 |n+1,a::l=>match takeN n l with
  |some r=>some (a::r)
  |none=>none
def hQ{α:Type}:Nat->List α->List α
 |0,l=>l
 |_+1,[]=>[]
 |n+1,_::l=>hQ n l
def cr:List UInt8->List UInt8->Bool
 |[],[]=>true
 |a::x,b::y=>match Nat.beq a.toNat b.toNat with
  |true=>cr x y
  |false=>false
 |_,_=>false
def c7:List UInt8->List UInt8->Bool
 |_,[]=>false
 |[],_::_=>true
 |a::x,b::y=>match Nat.beq a.toNat b.toNat with
  |true=>c7 x y
  |false=>Nat.blt a.toNat b.toNat
def eC(x y:Int):Bool:=decide (x<y)
def hp(x y:Int):Bool:=decide (x<=y)
def dP(x y:Int):Bool:=x==y
def loadCells(h:J)(b off n:Nat):Option (List I):=
 match h.get b with
 |some (.cells cs _ _ _ _)=>takeN n (hQ off cs)
 |_=>none
def aO(h:J)(b off:Nat):Option I:=
 match h.get b with
 |some (.cells cs _ _ _ _)=>nth off cs
 |_=>none
def jm(k:e3)(bB ag off n:Nat):Bool:=
 match k with
 |.ro|.fz=>false
 |_=>Nat.ble ag bB||Nat.ble (off+n) bB||Nat.ble ag off
def putCells:Nat->List I->List I->Option (List I)
 |0,[],cs=>some cs
 |0,_::_,[]=>none
 |0,v::vs,_::cs=>match v.ca with
  |true=>match putCells 0 vs cs with
   |some r=>some (v::r)
   |none=>none
  |false=>none
 |_+1,[],cs=>some cs
 |_+1,_::_,[]=>none
 |n+1,vs,c::cs=>match putCells n vs cs with
  |some r=>some (c::r)
  |none=>none
def storeCells(h:J)(b off:Nat)(vs:List I):Option J:=
 match h.get b with
 |some (.cells cs el k bB ag)=>
  match jm k bB ag off vs.length with
  |true=>match putCells off vs cs with
   |some bC=>some (h.set b (some (.cells bC el k bB ag)))
   |none=>none
  |false=>none
 |_=>none
def newRow(h:J)(el:Nat)(cs:List I):Option (Nat×J):=
 match cs.all I.ca with
 |true=>some (h.n,h.push (.cells cs el .own 0 0))
 |false=>none
def jX(P:Program)(t:TypeId):Option Bool:=
 match P.underlying t with
 |some (.struct _)=>some true
 |some (.array _ _)=>some true
 |some _=>some false
 |none=>none
def cQ(P:Program)(t:TypeId):Option Nat:=match P.info? t with
 |some i=>some i.size
 |none=>none
def ek(P:Program)(t:TypeId):Option I:=match P.info? t with
 |some i=>match i.zero with
  |some z=>match mT z with
   |.bad=>none
   |a=>some a
  |none=>none
 |none=>none
def lE(P:Program)(t:TypeId)(cs:List I)(off:Nat):Option I:=
 match jX P t,cQ P t with
 |some true,some n=>match takeN n (hQ off cs) with
  |some r=>some (.agg r)
  |none=>none
 |some false,_=>nth off cs
 |_,_=>none
def iU(place:Nat->Option (Nat×Nat))(cells:List I):List (Nat×I)->Option (List I)
 |[]=>some cells
 |(i,v)::rest=>
  match v with
  |.bad=>none
  |v=>match place i with
   |none=>none
   |some (off,size)=>
    match Nat.beq v.cells.length size&&Nat.ble (off+size) cells.length with
    |true=>match putCells off v.cells cells with
     |some KP=>iU place KP rest
     |none=>none
    |false=>none
def fN{α:Type}:Nat->List α->List α
 |0,_=>[]
 |n+1,l=>l++fN n l
def eqFields(P:Program)(E:TypeId->I->I->Option Bool)(xs fa:List I):List Field->Option Bool
 |[]=>some true
 |f::ax=>match decide (f.name= "_") with
  |true=>eqFields P E xs fa ax
  |false=>match lE P f.type xs f.offset,lE P f.type fa f.offset with
   |some a,some b=>match E f.type a b with
    |some true=>eqFields P E xs fa ax
    |r=>r
   |_,_=>none
def uP(P:Program)(E:TypeId->I->I->Option Bool)(e:TypeId)(sz:Nat)(xs fa:List I):Nat->Nat->Option Bool
 |0,_=>some true
 |n+1,i=>match lE P e xs (i*sz),lE P e fa (i*sz) with
  |some a,some b=>match E e a b with
   |some true=>uP P E e sz xs fa n (i+1)
   |r=>r
  |_,_=>none
def Am(h:J)(a i b j:Nat):Option Bool:=
 match Nat.beq a b with
 |true=>some (Nat.beq i j)
 |false=>match h.get a,h.get b with
  |some (.cells _ _ .own 0 0),some (.cells _ _ .own 0 0)=>some false
  |_,_=>none
def hq(P:Program)(h:J):Nat->TypeId->I->I->Option Bool
 |0,_,_,_=>none
 |d+1,t,x,y=>
  match P.underlying t with
  |none=>none
  |some .bool=>match x,y with
   |.bool a,.bool b=>some (a==b)
   |_,_=>none
  |some (.int _)=>match x,y with
   |.int j a,.int k b=>if j=k then some (dP a b) else none
   |_,_=>none
  |some .string=>match x,y with
   |.str a,.str b=>some (cr a b)
   |_,_=>none
  |some (.pointer e)=>match x,y with
   |.c_,.c_=>some true
   |.c_,.ptr _ _=>some false
   |.ptr _ _,.c_=>some false
   |.ptr a i,.ptr b j=>match cQ P e with
    |some (_+1)=>Am h a i b j
    |_=>none
   |_,_=>none
  |some (.slice _)=>match x,y with
   |.bn,.bn=>some true
   |.bn,.slice _ _ _ _=>some false
   |.slice _ _ _ _,.bn=>some false
   |_,_=>none
  |some (.map _ _)=>match x,y with
   |.fy,.fy=>some true
   |.fy,.map _=>some false
   |.map _,.fy=>some false
   |_,_=>none
  |some (.func _ _ _)=>match x,y with
   |.h5,.h5=>some true
   |.h5,.fn _ _ _=>some false
   |.fn _ _ _,.h5=>some false
   |_,_=>none
  |some (.interface _)=>match x,y with
   |.ej,.ej=>some true
   |.ej,.iface _ _=>some false
   |.iface _ _,.ej=>some false
   |.iface a v,.iface b w=>match Nat.beq a b with
    |false=>some false
    |true=>match P.info? a with
     |some i=>match i.comparable with
      |true=>hq P h d a v w
      |false=>none
     |none=>none
   |_,_=>none
  |some (.struct ax)=>match x,y with
   |.agg xs,.agg fa=>match P.stoodInHeld t with
    |true=>none
    |false=>eqFields P (hq P h d) xs fa ax.toList
   |_,_=>none
  |some (.array n e)=>match x,y with
   |.agg xs,.agg fa=>match cQ P e with
    |some sz=>uP P (hq P h d) e sz xs fa n 0
    |none=>none
   |_,_=>none
  |some _=>none
def pE(P:Program)(t:TypeId)(x y:Operand)(a b:I):Bool:=
 match a,b with
 |.ej,.ej=>(x matches .const _)||(y matches .const _)
 |.agg _,.agg _=>!P.eqGuardType P.depth t
 |_,_=>true
def arith(op:BinOp)(k:IntKind)(x y:Int):Option I:=
 match op with
 |.add=>some (.int k (k.wrap (x+y)))
 |.sub=>some (.int k (k.wrap (x-y)))
 |.mul=>some (.int k (k.wrap (x*y)))
 |.quo=>if y=0 then none else some (.int k (k.wrap (x.tdiv y)))
 |.rem=>if y=0 then none else some (.int k (x.tmod y))
 |.and=>some (.int k (k.wrap (BitVec.ofInt k.bits x&&&BitVec.ofInt k.bits y).toNat))
 |.or=>some (.int k (k.wrap (BitVec.ofInt k.bits x|||BitVec.ofInt k.bits y).toNat))
 |.xor=>some (.int k (k.wrap (BitVec.ofInt k.bits x^^^BitVec.ofInt k.bits y).toNat))
 |.andNot=>some (.int k (k.wrap (BitVec.ofInt k.bits x&&& ~~~BitVec.ofInt k.bits y).toNat))
 |.eql=>some (.bool (dP x y))
 |.neq=>some (.bool (!dP x y))
 |.lss=>some (.bool (eC x y))
 |.leq=>some (.bool (hp x y))
 |.gtr=>some (.bool (eC y x))
 |.geq=>some (.bool (hp y x))
 |_=>none
def uQ(op:BinOp)(k:IntKind)(x y:Int):Option I:=
 if y<0 then none else
 match op with
 |.shl=>some (.int k (k.wrap (x*2^(min y.toNat k.bits))))
 |.shr=>some (.int k (x.fdiv (2^(min y.toNat k.bits))))
 |_=>none
def oH(op:BinOp)(x y:List UInt8):Option I:=
 match op with
 |.add=>if((x.length+y.length:Nat):Int)>IntKind.i64.max then none else some (.str (x++y))
 |.eql=>some (.bool (cr x y))
 |.neq=>some (.bool (!cr x y))
 |.lss=>some (.bool (c7 x y))
 |.leq=>some (.bool (!c7 y x))
 |.gtr=>some (.bool (c7 y x))
 |.geq=>some (.bool (!c7 x y))
 |_=>none
def ec(P:Program)(h:J)(op:BinOp)(t:TypeId)(iy jG:Operand)(x y:I):Option I:=
 match x,y with
 |.int k a,.int gA b=>
  match op with
  |.shl|.shr=>uQ op k a b
  |_=>if k=gA then arith op k a b else none
 |.str a,.str b=>oH op a b
 |x,y=>
  match op with
  |.eql=>if pE P t iy jG x y then(match hq P h 100 t x y with
   |some b=>some (.bool b)
   |none=>none) else none
  |.neq=>if pE P t iy jG x y then(match hq P h 100 t x y with
   |some b=>some (.bool (!b))
   |none=>none) else none
  |_=>none
def eT:I->Option Nat
 |.int _ (.ofNat n)=>some n
 |_=>none
def iz(d:Nat):Option I->Option Nat
 |none=>some d
 |some v=>eT v
def bounds(len cap:Nat)(bB ag mx:Option I):Option (Nat×Nat×Nat):=
 match iz cap mx with
 |none=>none
 |some m=>match Nat.ble m cap with
  |false=>none
  |true=>match(match ag,mx with
     |none,none=>some len
     |none,some _=>none
     |some v,_=>eT v) with
   |none=>none
   |some af=>match Nat.ble af m with
    |false=>none
    |true=>match iz 0 bB with
     |none=>none
     |some l=>match Nat.ble l af with
      |false=>none
      |true=>some (l,af,m)
def fV(P:Program)(h:J)(t:TypeId)(x:I)(bB ag mx:Option I):Option I:=
 match P.underlying t,x with
 |some .string,.str s=>match mx with
  |some _=>none
  |none=>match bounds s.length s.length bB ag none with
   |some (l,af,_)=>some (.str (List.take (af-l) (hQ l s)))
   |none=>none
 |some (.slice e),.bn=>match cQ P e,bounds 0 0 bB ag mx with
  |some _,some _=>some .bn
  |_,_=>none
 |some (.slice e),.slice b off len (.exact cap)=>match cQ P e,bounds len cap bB ag mx with
  |some sz,some (l,af,m)=>some (.slice b (if m=l then off else off+l*sz) (af-l) (.exact (m-l)))
  |_,_=>none
 |some (.slice e),.slice b off len (.aH fx)=>match cQ P e with
  |some sz=>if sz=fx then(match mx with
   |none=>match bounds len len bB ag none with
    |some (l,af,_)=>if l=0 then some (.slice b off af (.aH fx)) else if Nat.blt l len then some (.slice b (off+l*sz) (af-l) (.aH fx)) else some (.slice b off 0 .dead)
    |none=>none
   |some _=>match bounds len len bB ag mx with
    |some (l,af,m)=>some (.slice b (if m=l then off else off+l*sz) (af-l) (.exact (m-l)))
    |none=>none) else none
  |none=>none
 |some (.slice e),.slice b off len .dead=>match cQ P e,bounds 0 0 bB ag mx with
  |some _,some _=>some (.slice b off 0 .dead)
  |_,_=>none
 |some (.array n e),.ptr b off=>match cQ P e,bounds n n bB ag mx with
  |some sz,some (l,af,m)=>some (.slice b (if m=l then off else off+l*sz) (af-l) (.exact (m-l)))
  |_,_=>none
 |some (.pointer arr),.ptr b off=>match P.underlying arr with
  |some (.array n e)=>match cQ P e,bounds n n bB ag mx with
   |some sz,some (l,af,m)=>some (.slice b (if m=l then off else off+l*sz) (af-l) (.exact (m-l)))
   |_,_=>none
  |_=>none
 |_,_=>none
def fO(P:Program)(h:J)(t:TypeId)(x:I):Option I:=
 match P.underlying t,x with
 |some .string,.str s=>some (.int .i64 (Int.ofNat s.length))
 |some (.array n _),_=>some (.int .i64 (Int.ofNat n))
 |some (.slice _),.slice _ _ n _=>some (.int .i64 (Int.ofNat n))
 |some (.slice _),.bn=>some (.int .i64 0)
 |some (.map _ _),.fy=>some (.int .i64 0)
 |some (.map _ _),.map r=>match h.get r with
  |some (.map es _)=>some (.int .i64 (Int.ofNat es.length))
  |_=>none
 |some (.pointer a),_=>match P.underlying a with
  |some (.array n _)=>some (.int .i64 (Int.ofNat n))
  |_=>none
 |_,_=>none
def s5(P:Program)(t:TypeId)(x:I):Option I:=
 match P.underlying t,x with
 |some (.array n _),_=>some (.int .i64 (Int.ofNat n))
 |some (.slice _),.slice _ _ _ (.exact n)=>some (.int .i64 (Int.ofNat n))
 |some (.slice _),.bn=>some (.int .i64 0)
 |_,_=>none
def cU:List UInt8->List I
 |[]=>[]
 |b::l=>.int .u8 (Int.ofNat b.toNat)::cU l
def h7(h:J)(size:Nat):I->Option (Nat×List I)
 |.bn=>some (0,[])
 |.str s=>match size with
  |1=>some (s.length,cU s)
  |_=>none
 |.slice b off len .dead=>if len=0 then some (0,[]) else none
 |.slice b off len _=>match loadCells h b off (len*size) with
  |some cs=>some (len,cs)
  |none=>none
 |_=>none
def jY(need bytes:Nat):Bool:=Nat.ble ((4*need+2048)*(bytes+1)) 281474976710656
def nV(P:Program):Option TypeId->Bool
 |none=>true
 |some t=>match P.underlying t with
  |some (.int _)=>false
  |some _=>true
  |none=>false
def mU(h:J)(e bytes size need:Nat)(z:I)(cs:List I)(fz:Nat):Option (I×J):=
 match jY need bytes&&Nat.beq z.cells.length size&&cs.all I.ca with
 |true=>some (.slice h.n 0 need (.aH size),h.push (.cells cs e .aH 0 fz))
 |false=>none
def en(P:Program)(h:J)(sT:TypeId)(xT:Option TypeId)(s x:I):Option (I×J):=
 match P.underlying sT,nV P xT with
 |some (.slice e),true=>
  match P.info? e,ek P e with
  |some i,some z=>
   match h7 h i.size x with
   |none=>none
   |some (n,cs)=>
    match s with
    |.bn=>match n with
     |0=>some (.bn,h)
     |_=>mU h e i.bytes i.size n z cs 0
    |.slice b off len (.exact cap)=>
     match Nat.ble (len+n) cap with
     |true=>match n with
      |0=>some (.slice b off len (.exact cap),h)
      |_=>match storeCells h b (off+len*i.size) cs with
       |some ah=>some (.slice b off (len+n) (.exact cap),ah)
       |none=>none
     |false=>match loadCells h b off (len*i.size) with
      |some old=>mU h e i.bytes i.size (len+n) z (old++cs) 0
      |none=>none
    |.slice b off len (.aH fx)=>
     match Nat.beq fx i.size&&Nat.blt 0 fx with
     |true=>match n with
      |0=>some (s,h)
      |_=>match h.get b with
       |some (.cells old el .aH bB ag)=>
        match Nat.ble (off+(len+n)*fx) old.length with
        |true=>match storeCells h b (off+len*fx) cs with
         |some ah=>some (.slice b off (len+n) (.aH fx),ah)
         |none=>none
        |false=>match Nat.ble ag (off+len*fx)&&Nat.beq el e,loadCells h b off (len*fx) with
         |true,some o=>mU (h.set b none) e i.bytes i.size (len+n) z (o++cs) (ag-off)
         |_,_=>none
       |_=>none
     |false=>none
    |_=>none
  |_,_=>none
 |_,_=>none
def s6(P:Program)(h:J)(xA:TypeId)(d s:I):Option (I×J):=
 match P.underlying xA with
 |some (.slice e)=>match cQ P e with
  |some sz=>match h7 h sz s with
   |some (n,cs)=>match d with
    |.bn=>some (.int .i64 0,h)
    |.slice b off len _=>
     let m:=Nat.min n len
     if m=0 then some (.int .i64 0,h) else
     match takeN (m*sz) cs with
     |some bC=>match storeCells h b off bC with
      |some ah=>some (.int .i64 (Int.ofNat m),ah)
      |none=>none
     |none=>none
    |_=>none
   |none=>none
  |none=>none
 |_=>none
def xB(P:Program)(h:J)(t:TypeId)(x:I):Option (I×J):=
 match P.underlying t,x with
 |some (.map _ _),.fy=>some (.aF [],h)
 |some (.slice _),.bn=>some (.aF [],h)
 |some (.map _ _),.map r=>match h.get r with
  |some (.map _ c)=>some (.aF [],h.set r (some (.map [] c)))
  |_=>none
 |some (.slice e),.slice b off n _=>if n=0 then some (.aF [],h) else
  match ek P e with
  |some z=>match storeCells h b off (fN n z.cells) with
   |some ah=>some (.aF [],ah)
   |none=>none
  |none=>none
 |_,_=>none
def jZ:I->I->Option I
 |.int k x,.int gA y=>if k=gA then some (.int k (if eC y x then y else x)) else none
 |_,_=>none
def mV:I->I->Option I
 |.int k x,.int gA y=>if k=gA then some (.int k (if eC x y then y else x)) else none
 |_,_=>none
def gX(f:I->I->Option I):I->List I->Option I
 |x,[]=>some x
 |x,y::l=>match f x y with
  |some z=>gX f z l
  |none=>none
def lF:List I->Option (List UInt8)
 |[]=>some []
 |.int .u8 (.ofNat n)::l=>match Nat.blt n 256,lF l with
  |true,some r=>some (UInt8.ofNat n::r)
  |_,_=>none
 |_=>none
def oI(P:Program)(h:J)(pT:TypeId)(p n:I):Option (I×J):=
 match p,eT n with
 |.c_,some 0=>some (.str [],h)
 |.ptr b off,some n=>if n=0 then some (.str [],h) else
  match P.underlying pT,h.get b with
  |some (.pointer u),some (.cells cs el k bB ag)=>
   if P.underlyingId el=P.underlyingId u&&cQ P el=some 1&&Nat.ble n 281474976710656&&decide (k≠ .ro) then
    (match takeN n (hQ off cs) with
    |some r=>match lF r with
     |some bs=>some (.str bs,h.set b (some (.cells cs el .fz bB ag)))
     |none=>none
    |none=>none) else none
  |_,_=>none
 |_,_=>none
def nW(P:Program)(cI:TypeId)(k:I):Bool:=
 match P.underlying cI with
 |some (.int _)=>match k with
  |.int _ _=>true
  |_=>false
 |some .string=>match k with
  |.str _=>true
  |_=>false
 |some .bool=>match k with
  |.bool _=>true
  |_=>false
 |_=>false
def xC(P:Program)(cs:List I):List Field->Bool
 |[]=>true
 |f::ax=>match lE P f.type cs f.offset with
  |some a=>match nW P f.type a with
   |true=>xC P cs ax
   |false=>false
  |none=>false
def xD(P:Program)(e:TypeId)(sz:Nat)(cs:List I):Nat->Nat->Bool
 |0,_=>true
 |n+1,i=>match lE P e cs (i*sz) with
  |some a=>match nW P e a with
   |true=>xD P e sz cs n (i+1)
   |false=>false
  |none=>false
def mW(P:Program)(cI:TypeId)(k:I):Bool:=
 match k with
 |.agg cs=>match P.underlying cI with
  |some (.struct ax)=>xC P cs ax.toList
  |some (.array n e)=>match cQ P e with
   |some sz=>xD P e sz cs n 0
   |none=>false
  |_=>false
 |k=>nW P cI k
def oJ:I->I->Option Bool
 |.int j a,.int k b=>if j=k then some (dP a b) else none
 |.str a,.str b=>some (cr a b)
 |.bool a,.bool b=>some (a==b)
 |_,_=>none
def uR:List I->List I->Bool
 |[],[]=>true
 |a::l,b::m=>match oJ a b with
  |some true=>uR l m
  |_=>false
 |_,_=>false
def oK(k x:I):Bool:=match k,x with
 |.agg a,.agg b=>uR a b
 |.agg _,_=>false
 |_,_=>true
def s7(P:Program)(h:J)(cI:TypeId)(k x:I):Option Bool:=match k with
 |.agg cs=>hq P h 8 cI (.agg cs) x
 |k=>oJ k x
def jn(P:Program)(h:J)(cI:TypeId)(k:I):List dj->Nat->Option (Option (Nat×I))
 |[],_=>some none
 |e::es,i=>match s7 P h cI k e.key with
  |some true=>some (some (i,e.val))
  |some false=>jn P h cI k es (i+1)
  |none=>none
def qZ(i:Nat)(es:List dj):I:=match nth i es with
 |some e=>e.key
 |none=>.bad
def oL(v:I)(key:I):Nat->List dj->List dj
 |_,[]=>[]
 |0,e::es=>⟨key,v,e.born⟩::es
 |n+1,e::es=>e::oL v key n es
def q0(P:Program)(fq:TypeId)(ok:Bool):Option (Nat×I)->Option I
 |some (_,v)=>some (if ok then .aF [v,.bool true] else v)
 |none=>match ek P fq with
  |some z=>some (if ok then .aF [z,.bool false] else z)
  |none=>none
def hF(P:Program)(h:J)(t:TypeId)(m k:I)(ok:Bool):Option I:=
 match P.underlying t with
 |some (.map cI fq)=>match mW P cI k with
  |true=>match m with
   |.fy=>q0 P fq ok none
   |.map r=>match h.get r with
    |some (.map es _)=>match jn P h cI k es 0 with
     |some r=>q0 P fq ok r
     |none=>none
    |_=>none
   |_=>none
  |false=>none
 |_=>none
def lG(P:Program)(h:J)(t:TypeId)(m k v:I):Option J:=
 match P.underlying t with
 |some (.map cI _)=>match mW P cI k with
  |true=>match m with
   |.map r=>match h.get r with
    |some (.map es clock)=>match jn P h cI k es 0 with
     |some (some (i,_))=>match oK k (qZ i es) with
      |true=>some (h.set r (some (.map (oL v k i es) clock)))
      |false=>none
     |some none=>some (h.set r (some (.map (es++[⟨k,v,clock⟩]) (clock+1))))
     |none=>none
    |_=>none
   |_=>none
  |false=>none
 |_=>none
def xE(P:Program)(h:J)(t:TypeId)(m k:I):Option (I×J):=
 match P.underlying t with
 |some (.map cI fq)=>match mW P cI k with
  |true=>match m with
   |.map r=>match h.get r with
    |some (.map es clock)=>match jn P h cI k es 0 with
     |some (some (i,v))=>match nth i es with
      |some e=>match oK k e.key with
       |true=>some (.aF [v,.int .i64 (Int.ofNat e.born)],h.set r (some (.map (oL v k i es) clock)))
       |false=>none
      |none=>none
     |some none=>match ek P fq with
      |some z=>some (.aF [z,.int .i64 (Int.ofNat clock)],h.set r (some (.map (es++[⟨k,z,clock⟩]) (clock+1))))
      |none=>none
     |none=>none
    |_=>none
   |_=>none
  |false=>none
 |_=>none
def uS(born:Int):List dj->Nat->Option (Nat×dj)
 |[],_=>none
 |e::es,i=>match dP (Int.ofNat e.born) born with
  |true=>some (i,e)
  |false=>uS born es (i+1)
def xF(h:J)(m s v:I):Option J:=
 match m,s with
 |.map r,.int _ born=>match h.get r with
  |some (.map es clock)=>match uS born es 0 with
   |some (i,e)=>some (h.set r (some (.map (oL v e.key i es) clock)))
   |none=>none
  |_=>none
 |_,_=>none
def uT:Nat->List dj->List dj
 |_,[]=>[]
 |0,_::es=>es
 |n+1,e::es=>e::uT n es
def q1(P:Program)(h:J)(t:TypeId)(m k:I):Option (I×J):=
 match P.underlying t with
 |some (.map cI _)=>match mW P cI k with
  |true=>match m with
   |.fy=>some (.aF [],h)
   |.map r=>match h.get r with
    |some (.map es clock)=>match jn P h cI k es 0 with
     |some (some (i,_))=>some (.aF [],h.set r (some (.map (uT i es) clock)))
     |some none=>some (.aF [],h.set r (some (.map es clock)))
     |none=>none
    |_=>none
   |_=>none
  |false=>none
 |_=>none
def An(s:List UInt8):Nat×Nat:=Utf8.decode ⟨s.toArray⟩ 0
def xG(h:J)(it:I)(isStr:Bool):Option (I×J):=
 match it with
 |.ptr r 0=>match h.get r,isStr with
  |some (.oG s pos),true=>
   (match s with
   |[]=>some (.aF [.bool false],h)
   |s=>let(c,w):=An s
    some (.aF [.bool true,.int .i64 (Int.ofNat pos),.int .i32 (Int.ofNat c)],h.set r (some (.oG (hQ w s) (pos+w)))))
  |some (.mapIter none _ _ _),false=>some (.aF [.bool false],h)
  |_,_=>none
 |_=>none
def q2(b:Nat):List dj->Option dj
 |[]=>none
 |e::l=>match Nat.beq e.born b with
  |true=>some e
  |false=>q2 b l
def uU:List Nat->Option Nat
 |[]=>none
 |[b]=>some b
 |_::b::l=>uU (b::l)
def q3(h:J)(it:I):Option I:=
 match it with
 |.ptr r 0=>match h.get r with
  |some (.mapIter (some m) _ seen last)=>match h.get m,uU seen with
   |some (.map es clock),some b=>match Nat.beq clock last with
    |true=>match q2 b es with
     |some e=>some (.aF [e.key,e.val])
     |none=>none
    |false=>none
   |_,_=>none
  |_=>none
 |_=>none
inductive az where
 |none|act (v:I)|done (v:I)
inductive aU where
 |nrm|exit (id:Nat)|ret|goto (l:Nat)|bu (v:I)
inductive iA where
 |ok (e:aU) (r:aN) (d:List bw) (q:az) (h:J)
 |fail (h6:String)
inductive cR where
 |fn (f:Nat)|b7 (l:Nat)
abbrev cJ:=cR->List I->J->bM
inductive Acc where
 |env (j:Nat)|jo (p:ho)|val (v:I)
def cv(m:Nat)(env:List I)(r:aN):Acc->I
 |.env j=>(nth (m-1-j) env).getD .bad
 |.jo p=>r.get p
 |.val v=>v
def gY(t:Nat):List (Nat×Acc)->Option Acc
 |[]=>none
 |(u,a)::l=>match Nat.beq t u with
  |true=>some a
  |false=>gY t l
def bX(P:Program)(need:Nat)(loc:List (Nat×Acc)):Operand->Acc
 |.tmp t=>match gY t loc with
  |some a=>a
  |none=>match Nat.testBit need t with
   |true=>.jo (fA t)
   |false=>.val .bad
 |.const v=>.val (mT v)
 |.global g=>match Nat.blt g P.globals.size with
  |true=>.val (.ptr g 0)
  |false=>.val .bad
 |.func f=>.val (.fn f [] [])
def q4(f:I)(args:List I)(h:J):iT:=
 match f with
 |.fn g first caps=>.call g (first++args++caps) h
 |.b7 l=>.b7 l args h
 |_=>.fail ""
def fb(h:J)(h6:String):Option I->iT
 |some v=>.val v h
 |none=>.fail h6
def kq(h6:String):Option (I×J)->iT
 |some (v,h)=>.val v h
 |none=>.fail h6
def oM(h6:String):Option J->iT
 |some h=>.val (.aF []) h
 |none=>.fail h6
def kindName:I->String
 |.bad=> "bad" |.bool _=> "bool" |.int _ n=> "int" ++toString n|.str s=> "str" ++toString s.length|.c_=> "nilP" |.ptr b o=> "ptr" ++toString b++ "+" ++toString o|.bn=> "nilS" |.slice b o n c=> "slice" ++toString b++ "+" ++toString o++ "," ++toString n++(match c with|.exact k=> "x" ++toString k|.aH _=> "o" |.dead=> "d")
 |.fy=> "nilM" |.map _=> "map" |.h5=> "nilF" |.fn f _ _=> "fn" ++toString f|.b7 _=> "yld" |.ej=> "nilI" |.iface t _=> "iface" ++toString t|.agg l=> "agg" ++toString l.length|.aF l=> "tup" ++toString l.length
def xH(P:Program)(t:TypeId)(name:String):Option Nat:=
 match P.info? t with
 |some i=>match i.methods.find? (·.name==name) with
  |some m=>match m.path.isEmpty,m.func,P.underlying t with
   |true,some (f,true),some (.pointer _)=>some f
   |true,some (f,false),some (.pointer _)=>none
   |true,some (f,false),some _=>some f
   |_,_,_=>none
  |none=>none
 |none=>none
def hR(P:Program)(b:Builtin)(ats:Array TypeId)(vs:List I)(h:J):iT:=
 match b with
 |.recover=>.qY
 |.min=>match vs with
  |x::l=>fb h "" (gX jZ x l)
  |[]=>.fail ""
 |.max=>match vs with
  |x::l=>fb h "" (gX mV x l)
  |[]=>.fail ""
 |b=>match ats[0]?,vs with
  |some t,[x]=>match b with
   |.len=>fb h "" (fO P h t x)
   |.cap=>fb h "" (s5 P t x)
   |.clear=>kq "" (xB P h t x)
   |.unsafeSliceData=>match x with
    |.bn=>.val .c_ h
    |.slice b off n (.exact c)=>if c=0 then .fail "" else .val (.ptr b off) h
    |.slice b off n (.aH _)=>if n=0 then .fail "" else .val (.ptr b off) h
    |_=>.fail ""
   |_=>.fail ""
  |some t,[x,y]=>match b with
   |.append=>kq "" (en P h t ats[1]? x y)
   |.copy=>kq "" (s6 P h t x y)
   |.delete=>kq "" (q1 P h t x y)
   |.unsafeString=>kq "" (oI P h t x y)
   |_=>.fail ""
  |_,_=>.fail ""
def iB(P:Program)(src dst:TypeId)(x:I)(h:J):iT:=
 match P.underlying src,P.underlying dst,x with
 |some (.int _),some (.int k),.int _ n=>.val (.int k (k.wrap n)) h
 |some (.int _),some .string,.int _ n=>.val (.str (Utf8.encode n).data.toList) h
 |some .string,some .string,.str s=>.val (.str s) h
 |some .string,some (.slice e),.str s=>match P.underlying e with
  |some (.int .u8)=>.val (.slice h.n 0 s.length (.aH 1)) (h.push (.cells (cU s) e .aH 0 0))
  |_=>.fail ""
 |some (.slice e),some .string,v=>match P.underlying e,v with
  |some (.int .u8),.bn=>.val (.str []) h
  |some (.int .u8),.slice b off n .dead=>if n=0 then .val (.str []) h else .fail ""
  |some (.int .u8),.slice b off n _=>match loadCells h b off n with
   |some cs=>match lF cs with
    |some bs=>.val (.str bs) h
    |none=>.fail ""
   |none=>.fail ""
  |_,_=>.fail ""
 |some (.pointer u),some .unsafePointer,.ptr b off=>match h.get b,cQ P u with
  |some (.cells cs _ _ _ _),some (_+1)=>if Nat.blt off cs.length then .val (.ptr b off) h else .fail ""
  |_,_=>.fail ""
 |some .unsafePointer,some (.pointer u),.ptr b off=>match h.get b,cQ P u with
  |some (.cells cs el .own _ _),some (_+1)=>if liesAt P P.depth el (cs.length/P.cellsOf el) off u 1 then .val (.ptr b off) h else .fail ""
  |_,_=>.fail ""
 |_,_,v=>.fail ""
def b6(P:Program)(o:Oper)(g:Operand->I)(h:J):iT:=
 match o.op with
 |.move x|.assign x=>.val (g x) h
 |.pick c a b=>match g c with
  |.bool true=>.val (g a) h
  |.bool false=>.val (g b) h
  |_=>.fail ""
 |.alloc e=>match ek P e with
  |some z=>match newRow h e z.cells with
   |some (b,ah)=>.val (.ptr b 0) ah
   |none=>.fail ""
  |none=>.fail ""
 |.box e x=>match newRow h e (g x).cells with
  |some (b,ah)=>.val (.ptr b 0) ah
  |none=>.fail ""
 |.build t parts=>match ek P t with
  |some z=>match P.underlying t with
   |some (.struct ax)=>match ax.toList.all (λf=>(cQ P f.type).isSome),iU (λi=>(ax[i]?).map λf=>(f.offset,P.cellsOf f.type)) z.cells (parts.toList.map λp=>(p.1,g p.2)) with
    |true,some cs=>.val (.agg cs) h
    |_,_=>.fail ""
   |some (.array _ e)=>match cQ P e with
    |some sz=>match iU (λi=>some (i*sz,sz)) z.cells (parts.toList.map λp=>(p.1,g p.2)) with
     |some cs=>.val (.agg cs) h
     |none=>.fail ""
    |none=>.fail ""
   |_=>.fail ""
  |none=>.fail ""
 |.buildSlice t len parts=>match P.underlying t with
  |some (.slice e)=>match cQ P e,ek P e with
   |some sz,some z=>match Nat.ble (len*sz) 16777216&&Nat.beq z.cells.length sz,iU (λi=>some (i*sz,sz)) (if len*sz=0 then[] else fN len z.cells) (parts.toList.map λp=>(p.1,g p.2)) with
    |true,some cs=>match newRow h e cs with
     |some (b,ah)=>.val (.slice b 0 len (.exact len)) ah
     |none=>.fail ""
    |_,_=>.fail ""
   |_,_=>.fail ""
  |_=>.fail ""
 |.insert t m k v=>oM "" (lG P h t (g m) (g k) (g v))
 |.load t a=>match g a with
  |.ptr b off=>match jX P t,cQ P t with
   |some true,some n=>match loadCells h b off n with
    |some cs=>.val (.agg cs) h
    |none=>.fail ""
   |some false,_=>fb h "" (aO h b off)
   |_,_=>.fail ""
  |v=>.fail ""
 |.store t a v=>match g a with
  |.ptr b off=>match g v,cQ P t with
   |.bad,_=>.fail ""
   |v,some n=>match Nat.beq v.cells.length n with
    |true=>oM "" (storeCells h b off v.cells)
    |false=>.fail ""
   |_,none=>.fail ""
  |_=>.fail ""
 |.ready _|.waits _=>.fail ""
 |.nilCheck x=>match g x with
  |.ptr b o=>.val (.ptr b o) h
  |.slice b o n c=>.val (.slice b o n c) h
  |.fn f a b=>.val (.fn f a b) h
  |.iface t v=>.val (.iface t v) h
  |_=>.fail ""
 |.binOp op t x y _=>fb h "" (ec P h op t x y (g x) (g y))
 |.unOp op _ x=>match op,g x with
  |.not,.bool b=>.val (.bool (!b)) h
  |.neg,.int k n=>.val (.int k (k.wrap (0-n))) h
  |.xor,.int k n=>fb h "" (arith .xor k (if k.signed then-1 else k.max) n)
  |_,_=>.fail ""
 |.convert src dst x=>iB P src dst (g x) h
 |.sliceToArrayPointer .. =>.fail ""
 |.makeInterface t x=>match P.underlying t with
  |some (.interface _)=>.fail ""
  |some _=>.val (.iface t (g x)) h
  |none=>.fail ""
 |.makeFunc fn first caps=>match fn with
  |.func f=>.val (.fn f (first.toList.map g) (caps.toList.map g)) h
  |_=>.fail ""
 |.makeMap t r=>match r with
  |none=>.val (.map h.n) (h.push (.map [] 0))
  |some x=>match P.underlying t,g x with
   |some (.map _ _),.int _ _=>.val (.map h.n) (h.push (.map [] 0))
   |_,_=>.fail ""
 |.makeChan .. =>.fail ""
 |.makeSlice t l c=>match P.underlying t,eT (g l),eT (g c) with
  |some (.slice e),some l,some c=>match P.info? e,ek P e with
   |some i,some z=>if l<=c&&Nat.ble (c*(i.bytes+1)) 1099511627776&&Nat.beq z.cells.length i.size then(match newRow h e (if c*i.size=0 then[] else fN c z.cells) with
    |some (b,ah)=>.val (.slice b 0 l (.exact c)) ah
    |none=>.fail "") else .fail ""
   |_,_=>.fail ""
  |_,_,_=>.fail ""
 |.slice t x bB ag mx=>fb h "" (fV P h t (g x) (bB.map g) (ag.map g) (mx.map g))
 |.fieldAddr s x f=>match P.underlying s,g x with
  |some (.struct ax),.ptr b off=>match ax[f]? with
   |some fd=>match cQ P fd.type with
    |some 0=>.fail ""
    |some _=>.val (.ptr b (off+fd.offset)) h
    |none=>.fail ""
   |none=>.fail ""
  |_,v=>.fail ""
 |.field t x f=>match P.underlying t,g x with
  |some (.struct ax),.agg cs=>match ax[f]? with
   |some fd=>fb h "" (lE P fd.type cs fd.offset)
   |none=>.fail ""
  |_,_=>.fail ""
 |.indexAddr t x i=>match P.underlying t,g x,eT (g i) with
  |some (.array n e),.ptr b off,some i=>match cQ P e with
   |some sz=>if i<n then .val (.ptr b (off+i*sz)) h else .fail ""
   |none=>.fail ""
  |some (.slice e),.slice b off n c,some i=>match cQ P e with
   |some sz=>if i<n then .val (.ptr b (off+i*sz)) h else .fail ""
   |none=>.fail ""
  |_,v,w=>.fail ""
 |.index t x i=>match P.underlying t,g x,eT (g i) with
  |some (.array n e),.agg cs,some i=>match cQ P e with
   |some sz=>if i<n then fb h "" (lE P e cs (i*sz)) else .fail ""
   |none=>.fail ""
  |some .string,.str s,some i=>match nth i s with
   |some b=>.val (.int .u8 (Int.ofNat b.toNat)) h
   |none=>.fail ""
  |_,_,_=>.fail ""
 |.lookup t x i ok=>fb h "" (hF P h t (g x) (g i) ok)
 |.mapUpdate t m k v=>oM "" (lG P h t (g m) (g k) (g v))
 |.mapEntry t m k=>kq "" (xE P h t (g m) (g k))
 |.entryStore t m s v=>oM "" (xF h (g m) (g s) (g v))
 |.range t x=>match P.underlying t,g x with
  |some .string,.str s=>.val (.ptr h.n 0) (h.push (.oG s 0))
  |some (.map _ _),.fy=>.val (.ptr h.n 0) (h.push (.mapIter none 0 [] 0))
  |some (.map _ _),.map m=>match h.get m with
   |some (.map _ c)=>.val (.ptr h.n 0) (h.push (.mapIter (some m) c [] c))
   |_=>.fail ""
  |_,_=>.fail ""
 |.next it isStr=>kq "" (xG h (g it) isStr)
 |.entry it=>fb h "" (q3 h (g it))
 |.typeAssert x xT as ok=>match P.underlying as,g x with
  |some (.interface _),_=>.fail ""
  |some _,.ej=>if ok then(match ek P as with|some z=>.val (.aF [z,.bool false]) h|none=>.fail "") else .fail ""
  |some _,.iface t v=>if t=as then .val (if ok then .aF [v,.bool true] else v) h else
   if ok then(match ek P as with|some z=>.val (.aF [z,.bool false]) h|none=>.fail "") else .fail ""
  |_,_=>.fail ""
 |.extract t i=>match g t with
  |.aF vs=>fb h "" (nth i vs)
  |_=>.fail ""
 |.call c=>match c.callee with
  |.value f=>q4 (g f) (c.args.toList.map g) h
  |.invoke r name=>match g r with
   |.iface t v=>match xH P t name with
    |some f=>.call f (v::c.args.toList.map g) h
    |none=>.fail ""
   |_=>.fail ""
  |.builtin b=>hR P b c.argTypes (c.args.toList.map g) h
 |.go _=>.fail ""
 |.defer c=>match c.callee with
  |.value f=>match g f with
   |.fn k first caps=>.mf (.call k (first++c.args.toList.map g++caps))
   |_=>.fail ""
  |_=>.fail ""
 |.panic x=>match g x with
  |.iface t v=>.bu (.iface t v) h
  |_=>.fail ""
 |.send .. |.recv .. |.select .. =>.fail ""
structure Step where
 guard:Option (Acc×Bool)
 o:Oper
 loc:List (Nat×Acc)
 m:Nat
structure Ao where
 steps:List Step
 loc:List (Nat×Acc)
def hS(P:Program)(need:Nat)(ops:Array Oper)(loc:List (Nat×Acc))(o:Oper):Option (Acc×Bool):=
 match o.guard with
 |none=>none
 |some (j,b)=>match(ops[j]?).bind (·.dst) with
  |some t=>some (bX P need loc (.tmp t),b)
  |none=>some (.val .bad,b)
def aliasOf(o:Oper):Option (Nat×Operand):=
 match o.guard,o.dst,o.op with
 |none,some t,.move x=>some (t,x)
 |none,some t,.assign x=>some (t,x)
 |_,_,_=>none
def gl(o:Oper)(m:Nat)(loc:List (Nat×Acc)):List (Nat×Acc):=
 match o.dst with
 |some t=>(t,.env m)::loc
 |none=>loc
def s8(P:Program)(need:Nat)(ops:Array Oper):List Oper->List (Nat×Acc)->List Step->Nat->Ao
 |[],loc,st,_=>⟨st.reverse,loc⟩
 |o::rest,loc,st,m=>
  match aliasOf o with
  |some (t,x)=>s8 P need ops rest ((t,bX P need loc x)::loc) st m
  |none=>s8 P need ops rest (gl o m loc) (⟨hS P need ops loc o,o,loc,m⟩::st) (m+1)
def kX(P:Program)(need:Nat)(ops:Array Oper):Ao:=s8 P need ops ops.toList [] [] 0
inductive lH where
 |ok (env:List I) (d:List bw) (q:az) (h:J)
 |bu (v:I) (d:List bw) (q:az) (h:J)
 |fail (h6:String)
inductive uV where
 |ok (v:I) (d:List bw) (q:az) (h:J)
 |bu (v:I) (d:List bw) (q:az) (h:J)
 |fail (h6:String)
def dr:Option (I×Bool)->Option Bool
 |none=>some true
 |some (.bool c,b)=>some (c==b)
 |some (.aF [],_)=>some false
 |_=>none
def uW(d:List bw)(q:az):bM->uV
 |.ret v h=>.ok v d q h
 |.bu v h=>.bu v d q h
 |.fail w=>.fail w
def dk(P:Program)(inR:Bool)(call:cR->List I->J->bM)(gd:Option (I×Bool))(o:Oper)(g:Operand->I)(d:List bw)(q:az)(h:J):uV:=
 match dr gd with
 |none=>.fail ""
 |some false=>.ok (.aF []) d q h
 |some true=>
  match b6 P o g h with
  |.val v ah=>.ok v d q ah
  |.bu v ah=>.bu v d q ah
  |.call f args ah=>uW d q (call (.fn f) args ah)
  |.b7 l args ah=>uW d q (call (.b7 l) args ah)
  |.mf x=>if inR then .fail "" else .ok (.aF []) (x::d) q h
  |.qY=>if inR then .fail "" else match q with
   |.none=>.ok .ej d .none h
   |.done v=>.ok .ej d (.done v) h
   |.act v=>.ok v d (.done v) h
  |.fail w=>.fail (w++ " at " ++o.pos)
def hr(P:Program)(need:Nat)(inR:Bool)(call:cR->List I->J->bM)(r:aN):List Step->List I->List bw->az->J->lH
 |[],env,d,q,h=>.ok env d q h
 |s::rest,env,d,q,h=>
  match dk P inR call (match s.guard with|none=>none|some (a,b)=>some (cv s.m env r a,b)) s.o (λx=>cv s.m env r (bX P need s.loc x)) d q h with
  |.ok v d' aX ah=>hr P need inR call r rest (v::env) d' aX ah
  |.bu v d' aX ah=>.bu v d' aX ah
  |.fail w=>.fail w
def cb.beq:cb->cb->Bool
 |.exact a,.exact b=>Nat.beq a b
 |.aH a,.aH b=>Nat.beq a b
 |.dead,.dead=>true
 |_,_=>false
mutual
def I.beq:I->I->Bool
 |.bool a,.bool b=>a==b
 |.int j a,.int k b=>decide (j=k)&&dP a b
 |.str a,.str b=>cr a b
 |.c_,.c_=>true
 |.ptr a i,.ptr b j=>Nat.beq a b&&Nat.beq i j
 |.bn,.bn=>true
 |.slice a i n c,.slice b j m d=>Nat.beq a b&&Nat.beq i j&&Nat.beq n m&&c.beq d
 |.fy,.fy=>true
 |.map a,.map b=>Nat.beq a b
 |.h5,.h5=>true
 |.fn f a b,.fn g c d=>Nat.beq f g&&I.mg a c&&I.mg b d
 |.b7 a,.b7 b=>Nat.beq a b
 |.ej,.ej=>true
 |.iface t v,.iface u w=>Nat.beq t u&&I.beq v w
 |.agg a,.agg b=>I.mg a b
 |.aF a,.aF b=>I.mg a b
 |_,_=>false
def I.mg:List I->List I->Bool
 |[],[]=>true
 |a::as,b::bs=>I.beq a b&&I.mg as bs
 |_,_=>false
end
inductive KQ where
 |pure|alloc|dA
def kindOf(P:Program):Op->KQ
 |.move _|.assign _|.pick .. |.build .. |.load .. |.nilCheck _|.binOp .. |.unOp .. |.makeInterface .. |.makeFunc .. |.slice .. |.fieldAddr .. |.field .. |.indexAddr .. |.index .. |.lookup .. |.typeAssert .. |.extract .. =>.pure
 |.convert _ d _=>match P.underlying d with
  |some (.slice _)=>.dA
  |_=>.pure
 |.call c=>match c.callee with
  |.builtin .len|.builtin .cap|.builtin .min|.builtin .max|.builtin .unsafeSliceData=>.pure
  |_=>.dA
 |.alloc _|.box .. |.buildSlice .. |.makeSlice .. =>.alloc
 |.makeMap _ none=>.alloc
 |_=>.dA
def hs(P:Program)(o:Op)(g:Operand->I)(b:Nat):Option (I×b8):=
 match o with
 |.alloc e=>match ek P e with
  |some z=>match z.cells.all I.ca with
   |true=>some (.ptr b 0,.cells z.cells e .own 0 0)
   |false=>none
  |none=>none
 |.box e x=>match(g x).cells.all I.ca with
  |true=>some (.ptr b 0,.cells (g x).cells e .own 0 0)
  |false=>none
 |.buildSlice t len parts=>match P.underlying t with
  |some (.slice e)=>match cQ P e,ek P e with
   |some sz,some z=>match Nat.ble (len*sz) 16777216&&Nat.beq z.cells.length sz,iU (λi=>some (i*sz,sz)) (if len*sz=0 then[] else fN len z.cells) (parts.toList.map λp=>(p.1,g p.2)) with
    |true,some cs=>match cs.all I.ca with
     |true=>some (.slice b 0 len (.exact len),.cells cs e .own 0 0)
     |false=>none
    |_,_=>none
   |_,_=>none
  |_=>none
 |.makeSlice t l c=>match P.underlying t,eT (g l),eT (g c) with
  |some (.slice e),some l,some c=>match P.info? e,ek P e with
   |some i,some z=>match decide (l<=c)&&Nat.ble (c*(i.bytes+1)) 1099511627776&&Nat.beq z.cells.length i.size,(if c*i.size=0 then[] else fN c z.cells) with
    |true,cs=>match cs.all I.ca with
     |true=>some (.slice b 0 l (.exact c),.cells cs e .own 0 0)
     |false=>none
    |_,_=>none
   |_,_=>none
  |_,_,_=>none
 |.makeMap _ none=>some (.map b,.map [] 0)
 |_=>none
structure DStep where
 i:Nat
 o:Oper
 dU:Nat
 loc:List (Nat×Acc)
def uX(fP:List Nat)(n:Nat)(o:Oper):Nat:=
 o.after.foldl (λs e=>match Region.binds .any e with
  |true=>s|||1<<<e.on|||(nth (n-1-e.on) fP).getD 0
  |false=>s) 0
def ed:List Oper->Nat->List (Nat×Acc)->List Nat->List DStep
 |[],_,_,_=>[]
 |o::l,n,loc,fP=>
  let m:=uX fP n o
  ⟨n,o,m,loc⟩::ed l (n+1) (gl o n loc) (m::fP)
def hT:List Oper->Nat->List (Nat×Acc)->List (Nat×Acc)
 |[],_,loc=>loc
 |o::l,n,loc=>hT l (n+1) (gl o n loc)
def eO(P:Program)(need:Nat)(ops:Array Oper)(r:aN)(n:Nat)(env:List I)(s:DStep):Option (I×Bool):=
 match hS P need ops s.loc s.o with
 |none=>none
 |some (a,b)=>some (cv n env r a,b)
inductive Ap where
 |ok (env:List I) (d:List bw) (q:az) (h:J) (a7:List (Nat×Nat×J))
 |bu (v:I) (env:List I) (d:List bw) (q:az) (h:J) (a7:List (Nat×Nat×J))
 |fail (h6:String)
def fB(P:Program)(need:Nat)(inR:Bool)(call:cR->List I->J->bM)(ops:Array Oper)(r:aN)(cf:Nat):List DStep->List I->List bw->az->J->List (Nat×Nat×J)->Ap
 |[],env,d,q,h,a7=>.ok env d q h a7
 |s::rest,env,d,q,h,a7=>
  let gd:=eO P need ops r s.i env s
  let g:=λx=>cv s.i env r (bX P need s.loc x)
  match kindOf P s.o.op with
  |.alloc=>match dr gd with
   |none=>.fail ""
   |some false=>fB P need inR call ops r cf rest (.aF []::env) d q h a7
   |some true=>match hs P s.o.op g (cf+s.i) with
    |some (v,o)=>fB P need inR call ops r cf rest (v::env) d q (h.set (cf+s.i) (some o)) a7
    |none=>.fail ""
  |.pure=>match dk P inR call gd s.o g d q h with
   |.ok v _ _ _=>fB P need inR call ops r cf rest (v::env) d q h a7
   |.bu _ _ _ _=>.fail ""
   |.fail w=>.fail w
  |.dA=>
   match(match a7 with|[]=>true|(e,_,_)::_=>Nat.testBit s.dU e) with
   |false=>.fail ""
   |true=>match dk P inR call gd s.o g d q h with
    |.ok v d' aX ah=>fB P need inR call ops r cf rest (v::env) d' aX ah ((s.i,s.dU,h)::a7)
    |.bu v d' aX ah=>match rest.all (λaV=>Nat.testBit aV.dU s.i) with
     |true=>.bu v env d' aX ah ((s.i,s.dU,h)::a7)
     |false=>.fail ""
    |.fail w=>.fail w
def gm(P:Program)(need:Nat)(ops:Array Oper)(r:aN)(n:Nat)(env:List I)(s:DStep)(v:I)(h:J):Bool:=
 match dr (eO P need ops r n env s) with
 |none=>false
 |some false=>true
 |some true=>match b6 P s.o (λx=>cv n env r (bX P need s.loc x)) h with
  |.val v' _=>I.beq v' v
  |_=>false
def lI(P:Program)(need:Nat)(ops:Array Oper)(r:aN)(n:Nat)(env:List I)(s:DStep)(nx:Option Nat)(h:J):J:=match nx,s.o.op with
 |some e,.convert _ _ x=>match bX P need s.loc x with
  |.env j=>match Nat.blt e j&&Nat.testBit s.dU j,nth j (ed ops.toList 0 [] []) with
   |true,some aV=>match aV.o.op,cv n env r (.env j),dr (eO P need ops r n env aV) with
    |.makeSlice t l c,.slice b _ _ _,some true=>match hs P (.makeSlice t l c) (λy=>cv n env r (bX P need aV.loc y)) b with
     |some (_,bY)=>h.set b (some bY)
     |none=>h
    |_,_,_=>h
   |_,_=>h
  |_=>h
 |_,_=>h
def j0(P:Program)(need:Nat)(ops:Array Oper)(r:aN)(n:Nat)(env:List I)(s:DStep)(v:I):Option Nat->J->List (Nat×Nat×J)->Bool
 |nx,h,a7=>
  (match(match nx with|none=>false|some e=>Nat.testBit s.dU e)||(match a7 with|[]=>false|(_,m,_)::_=>Nat.testBit m s.i) with
   |true=>true
   |false=>gm P need ops r n env s v h||gm P need ops r n env s v (lI P need ops r n env s nx h))&&
  (match a7 with
   |[]=>true
   |(e,_,ah)::rest=>j0 P need ops r n env s v (some e) ah rest)
def kr(P:Program)(need:Nat)(ops:Array Oper)(r:aN)(n:Nat)(env:List I)(last:Option Nat)(h:J)(a7:List (Nat×Nat×J)):List DStep->Bool
 |[]=>true
 |s::rest=>(match Nat.blt s.i n,kindOf P s.o.op with
   |true,.pure=>j0 P need ops r n env s ((nth (n-1-s.i) env).getD .bad) last h a7
   |_,_=>true)&&kr P need ops r n env last h a7 rest
def q5(P:Program)(need:Nat)(inR:Bool)(call:cR->List I->J->bM)(ops:Array Oper)(r:aN)(d:List bw)(q:az)(h:J):lH:=
 let steps:=ed ops.toList 0 [] []
 match fB P need inR call ops r h.n steps [] d q ⟨h.t,h.n+ops.size⟩ [] with
 |.ok env d' aX ah a7=>match kr P need ops r env.length env none ah a7 steps with
  |true=>.ok env d' aX ah
  |false=>.fail ""
 |.bu v env d' aX ah a7=>match a7 with
  |(e,_,aA)::rest=>match kr P need ops r env.length env (some e) aA rest steps with
   |true=>.bu v d' aX ah
   |false=>.fail ""
  |[]=>.fail ""
 |.fail w=>.fail w
def mX(need:Nat)(m:Nat)(env:List I)(gB:aN):List (Nat×Acc)->aN->aN
 |[],r=>r
 |(t,a)::l,r=>
  let r':=mX need m env gB l r
  match Nat.testBit need t with
  |true=>r'.set (fA t) (cv m env gB a)
  |false=>r'
def s9:List (Nat×Acc)->aN->aN
 |[],r=>r
 |(t,_)::l,r=>(s9 l r).set (fA t) .bad
def lJ(need:Nat)(r:aN)(loc:List (Nat×Acc)):lH->iA
 |.ok env d q h=>.ok .nrm (mX need env.length env r loc r) d q h
 |.bu v d q h=>.ok (.bu v) (s9 loc r) d q h
 |.fail w=>.fail w
def oN(x:iA)(f:aN->List bw->az->J->iA):iA:=
 match x with
 |.ok .nrm r d q h=>f r d q h
 |x=>x
def nX(f:aN->List bw->az->J->iA):Nat->aN->List bw->az->J->iA
 |0,_,_,_,_=>.fail ""
 |n+1,r,d,q,h=>oN (f r d q h) (nX f n)
def mY(rd:Option Nat)(n:Nat):Nat:=match rd with
 |none=>n+1
 |some _=>n
def uY(need:Nat)(rd:Option Nat)(r:aN)(ps:List Nat)(as b2:Code)(d:List bw)(h:J):Option (List bw×J):=
 match rd with
 |none=>some (.collected h.n::d,(h.push (.defrd (some []))).push (.loop .ready none need r ps as b2 h.n))
 |some iV=>match h.get iV with
  |some (.loop _ _ _ _ _ _ _ cK)=>some (d,h.push (.loop .ready none need r ps as b2 cK))
  |_=>none
def mZ(l:Nat)(r:aN)(d:List bw)(q:az):bM->iA
 |.ret _ h=>match h.get l with
  |some (.loop st e4 dG rg ps as b2 cK)=>match st with
   |.busy=>.fail ""
   |_=>match e4 with
    |none=>.ok .nrm r d q (h.set l (some (.loop .exhausted e4 dG rg ps as b2 cK)))
    |some .ret=>.ok .ret r d q (h.set l (some (.loop .exhausted e4 dG rg ps as b2 cK)))
    |some (.exit id)=>.ok (.exit id) r d q (h.set l (some (.loop .exhausted e4 dG rg ps as b2 cK)))
    |_=>.fail ""
  |_=>.fail ""
 |.bu v h=>.ok (.bu v) r d q h
 |.fail w=>.fail w
def cX(P:Program)(need:Nat)(rd:Option Nat)(call:cR->List I->J->bM):Code->aN->List bw->az->J->iA
 |.skip,r,d,q,h=>.ok .nrm r d q h
 |.region id ops draw,r,d,q,h=>
  match draw with
  |false=>
   let pl:=kX P need ops
   lJ need r pl.loc (hr P need rd.isSome call r pl.steps [] d q h)
  |true=>lJ need r (hT ops.toList 0 []) (q5 P need rd.isSome call ops r d q h)
 |.seq a b,r,d,q,h=>oN (cX P need rd call a r d q h) (cX P need rd call b)
 |.cond c a b,r,d,q,h=>match cv 0 [] r (bX P need [] c) with
  |.bool true=>cX P need rd call a r d q h
  |.bool false=>cX P need rd call b r d q h
  |_=>.fail ""
 |.block id b,r,d,q,h=>match cX P need rd call b r d q h with
  |.ok (.exit i) r' d' aX ah=>if i=id then .ok .nrm r' d' aX ah else .ok (.exit i) r' d' aX ah
  |x=>x
 |.loop b,r,d,q,h=>nX (cX P need rd call b) 100000 r d q h
 |.exit id,r,d,q,h=>.ok (.exit id) r d q h
 |.ret,r,d,q,h=>.ok .ret r d q h
 |.label _,r,d,q,h=>.ok .nrm r d q h
 |.goto l,r,d,q,h=>.fail ""
 |.scope b,r,d,q,h=>cX P need rd call b r d q h
 |.rangeFunc f params assign body,r,d,q,h=>
  match uY need rd r params.toList assign body d h with
  |none=>.fail ""
  |some (d',h1)=>
   match q4 (cv 0 [] r (bX P need [] f)) [.b7 (mY rd h.n)] h1 with
   |.call g args aa=>mZ (mY rd h.n) r d' q (call (.fn g) args aa)
   |.b7 dQ args aa=>mZ (mY rd h.n) r d' q (call (.b7 dQ) args aa)
   |_=>.fail ""
 |.refuse w,_,_,_,_=>.fail ""
def bit(t:Nat):Nat:=1<<<t
def D8:List Oper->Nat->Nat->Nat
 |[],_,acc=>acc
 |o::l,written,acc=>
  let acc:=o.op.operands.foldl (λa x=>match x with
   |.tmp t=>if Nat.testBit written t then a else a|||bit t
   |_=>a) acc
  D8 l (match o.dst with|some t=>written|||bit t|none=>written) acc
def D9:Operand->Nat
 |.tmp t=>bit t
 |_=>0
def pF:Code->Nat->Nat
 |.region _ ops _,acc=>D8 ops.toList 0 acc
 |.seq a b,acc=>pF b (pF a acc)
 |.cond c a b,acc=>pF b (pF a (acc|||D9 c))
 |.block _ b,acc|.loop b,acc|.scope b,acc=>pF b acc
 |.rangeFunc f ps a b,acc=>pF b (pF a (acc|||D9 f|||ps.foldl (λa t=>a|||bit t) 0))
 |_,acc=>acc
def bG(fn:Func):Nat:=
 let rs:=fn.results.foldl (λa r=>match r with|.tmp t=>a|||bit t|.cell t _=>a|||bit t) 0
 match fn.body with
 |some c=>pF c rs
 |none=>rs
def m_:Nat->List I->aN->aN
 |_,[],r=>r
 |i,v::l,r=>m_ (i+1) l (r.set (fA i) v)
def pG(P:Program)(need:Nat)(r:aN)(h:J)(x:ResultVar):Option I:=
 match x with
 |.tmp t=>match Nat.testBit need t with
  |true=>some (r.get (fA t))
  |false=>none
 |.cell t ty=>match Nat.testBit need t with
  |true=>match r.get (fA t),jX P ty,cQ P ty with
   |.ptr b off,some true,some n=>(match loadCells h b off n with|some cs=>some (.agg cs)|none=>none)
   |.ptr b off,some false,_=>aO h b off
   |_,_,_=>none
  |false=>none
def lK(f:ResultVar->Option I):List ResultVar->Option (List I)
 |[]=>some []
 |x::l=>match f x,lK f l with
  |some v,some vs=>some (v::vs)
  |_,_=>none
def na(P:Program)(need:Nat)(fn:Func)(r:aN)(h:J):Option I:=
 match lK (pG P need r h) fn.results.toList with
 |some [v]=>some v
 |some vs=>some (.aF vs)
 |none=>none
def mh(c:Nat):List UInt8->Nat->Int
 |[],_=>-1
 |b::l,i=>match Nat.beq b.toNat c with
  |true=>Int.ofNat i
  |false=>mh c l (i+1)
def pH(P:Program)(fn:Func)(name:String)(args:List I)(h:J):Option (I×J):=
 match args with
 |[.int .i64 (.ofNat n)]=>if name= "internal/bytealg.MakeNoZero" then
    (match fn.resultTypes[0]? with
    |some t=>match P.underlying t with
     |some (.slice e)=>match Nat.ble n 1099511627776 with
      |true=>some (.slice h.n 0 n (.aH 1),h.push (.cells (List.replicate n .bad) e .aH 0 0))
      |false=>none
     |_=>none
    |none=>none) else none
 |[x]=>if name= "internal/abi.NoEscape" then some (x,h) else
  if name= "maps.clone" then(match x with
   |.iface t (.map r)=>match h.get r with
    |some (.map es c)=>some (.iface t (.map h.n),h.push (.map es c))
    |_=>none
   |_=>none) else none
 |[.str s,.int .u8 (.ofNat c)]=>if name= "internal/bytealg.IndexByteString" then
    (match Nat.blt c 256 with
    |true=>some (.int .i64 (mh c s 0),h)
    |false=>none) else none
 |_=>none
def pI:Option I->az
 |some v=>.act v
 |none=>.none
def q6(q:az)(ee:Option I):Option I:=match q with
 |.done _=>none
 |_=>ee
def jH(P:Program)(call:cR->List I->J->bM)(fn:Func)(args:List I)(q:az)(h:J):iA:=
 match fn.body with
 |some c=>match Nat.ble args.length fn.ntmps with
  |true=>cX P (bG fn) none call c (m_ 0 args .leaf) [] q h
  |false=>.fail ""
 |none=>.fail ""
def s_(P:Program)(fn:Func)(ee:Option I):iA->Option (Option I×J)
 |.ok e r d q h=>match(match e with|.nrm=>true|.ret=>true|_=>false),d,na P (bG fn) fn r h with
  |true,[],some _=>some (q6 q ee,h)
  |_,_,_=>none
 |.fail _=>none
def ht(P:Program)(call:cR->List I->J->bM)(need:Nat)(fn:Func)(r:aN):Nat->Option I->List bw->J->bM
 |0,_,_,_=>.fail ""
 |k+1,ee,ds,h=>match ds with
  |[]=>match ee with
   |none=>match na P need fn r h with
    |some v=>.ret v h
    |none=>.fail ""
   |some v=>.bu v h
  |.collected b::ds=>match h.get b with
   |some (.defrd (some cs))=>ht P call need fn r k ee (cs++ds) (h.set b (some (.defrd none)))
   |_=>.fail ""
  |.call g args::ds=>
   match P.funcs[g]? with
   |some gM=>match s_ P gM ee (jH P call gM args (pI ee) h) with
    |some (KR,ah)=>ht P call need fn r k KR ds ah
    |none=>.fail ""
   |none=>.fail ""
def mi(P:Program)(call:cR->List I->J->bM)(fn:Func):iA->bM
 |.ok .nrm r d _ h=>ht P call (bG fn) fn r 100 none d h
 |.ok .ret r d _ h=>ht P call (bG fn) fn r 100 none d h
 |.ok (.bu v) r d _ h=>ht P call (bG fn) fn r 100 (some v) d h
 |.ok _ _ _ _ _=>.fail ""
 |.fail w=>.fail (w++ " < " ++fn.name)
def oO(P:Program)(call:cR->List I->J->bM)(f:Nat)(args:List I)(h:J):bM:=
 match P.funcs[f]? with
 |none=>.fail ""
 |some fn=>
  match fn.body with
  |none=>match pH P fn fn.name args h with
   |some (v,ah)=>.ret v ah
   |none=>.fail ""
  |some _=>mi P call fn (jH P call fn args .none h)
def q7:List Nat->List I->aN->Option aN
 |[],[],r=>some r
 |t::ts,v::vs,r=>q7 ts vs (r.set (fA t) v)
 |_,_,_=>none
def ta(l:Nat):iA->bM
 |.ok e _ [] _ h=>match h.get l with
  |some (.loop .busy _ dG rg ps as b2 cK)=>match e with
   |.nrm=>.ret (.bool true) (h.set l (some (.loop .ready none dG rg ps as b2 cK)))
   |.ret=>.ret (.bool false) (h.set l (some (.loop .done (some .ret) dG rg ps as b2 cK)))
   |.exit id=>.ret (.bool false) (h.set l (some (.loop .done (some (.exit id)) dG rg ps as b2 cK)))
   |.bu v=>.bu v h
   |.goto _=>.fail ""
  |_=>.fail ""
 |.ok .. =>.fail ""
 |.fail w=>.fail (w++ " < round")
def xI(P:Program)(call:cR->List I->J->bM)(l need:Nat)(b2:Code):iA->bM
 |.ok .nrm r [] _ h=>match h.get l with
  |some (.loop .ready e4 dG rg ps pJ pK cK)=>ta l (cX P need (some l) call b2 r [] .none (h.set l (some (.loop .busy e4 dG rg ps pJ pK cK))))
  |_=>.fail ""
 |.ok .. =>.fail ""
 |.fail w=>.fail w
def mj(P:Program)(call:cR->List I->J->bM)(l:Nat)(args:List I)(h:J):bM:=
 match h.get l with
 |some (.loop .ready _ need rg ps as b2 _)=>
  match q7 ps args rg with
  |none=>.fail ""
  |some gB=>xI P call l need b2 (cX P need (some l) call as gB [] .none h)
 |_=>.fail ""
def cF(P:Program)(intr:Nat->List I->J->Option (I×J)):Nat->cR->List I->J->bM
 |0,_,_,_=>.fail ""
 |n+1,.fn f,args,h=>match intr f args h with
  |some (v,ah)=>.ret v ah
  |none=>oO P (cF P intr n) f args h
 |n+1,.b7 l,args,h=>mj P (cF P intr n) l args h
def ml(n:Nat):J:=⟨.leaf,n⟩
def kY(ops:Array Oper)(o:Oper):List Nat:=
 o.dst.toList++(o.op.operands.toList.filterMap λ|.tmp t=>some t|_=>none)++(match o.guard with|some (j,_)=>((ops[j]?).bind (·.dst)).toList|none=>[])
def nb(o:Oper)(i:Nat):Bool:=o.after.toList.all λe=>!Region.binds .any e||Nat.blt e.on i
def xJ(ops:Array Oper)(s:DStep):List DStep->Bool
 |[]=>true
 |aV::l=>(match(match s.o.dst with|some t=>(kY ops aV.o).contains t|none=>false)||(match aV.o.dst with|some t=>(kY ops s.o).contains t|none=>false) with
   |true=>Nat.testBit aV.dU s.i
   |false=>true)&&xJ ops s l
def oP(ops:Array Oper):List DStep->Bool
 |[]=>true
 |s::l=>nb s.o s.i&&xJ ops s l&&oP ops l
def fQ(br:Nat):Code->Bool
 |.region _ ops draw=>ops.toList.all (λo=>match o.dst with|some t=>Nat.blt t br|none=>true)&&(!draw||oP ops (ed ops.toList 0 [] []))
 |.seq a b=>fQ br a&&fQ br b
 |.cond _ a b=>fQ br a&&fQ br b
 |.block _ b|.loop b|.scope b=>fQ br b
 |.rangeFunc _ ps a b=>ps.toList.all (λt=>Nat.blt t br)&&fQ br a&&fQ br b
 |_=>true
end aS
namespace aS
open Go
def ho.num:ho->Nat
 |.here=>0
 |.l p=>2*p.num+1
 |.r p=>2*p.num+2
theorem D_:∀(f n:Nat),n<=f->(uO f n).num=n
 |0,n,h=>by
  obtain rfl:n=0:=by omega
  rfl
 |f+1,0,_=>rfl
 |f+1,m+1,h=>by
  have e:Nat.mod m 2=m %2:=rfl
  have au:Nat.div m 2=m/2:=rfl
  have bc:=D_ f (m/2) (by omega)
  simp only[uO,e,au]
  rcases Nat.mod_two_eq_zero_or_one m with aA|h1
  · simp only[aA,ho.num,bc];omega
  · simp only[h1,ho.num,bc];omega
theorem xK(n:Nat):(fA n).num=n:=D_ n n (Nat.le_refl n)
theorem KS{m n:Nat}(h:fA m=fA n):m=n:=by rw[<-xK m,<-xK n,h]
theorem aN.pL(l:aN)(v:I)(r:aN):aN.Ak l v r=.node l v r:=by cases l<;>rfl
theorem aN.pM(l:aN)(v:I)(r:aN):aN.Al l v r=.node l v r:=by cases r<;>rfl
theorem aN.mm(p:ho):aN.get p .leaf=.bad:=by cases p<;>rfl
theorem aN.uZ:∀(p:ho) (v:I) (t:aN),(aN.set p v t).get p=v
 |.here,v,.leaf=>rfl
 |.here,v,.node .. =>rfl
 |.l p,v,.leaf=>by simp only[aN.set,aN.pL,aN.get];exact uZ p v _
 |.l p,v,.node l _ _=>by simp only[aN.set,aN.pL,aN.get];exact uZ p v _
 |.r p,v,.leaf=>by simp only[aN.set,aN.pM,aN.get];exact uZ p v _
 |.r p,v,.node .. =>by simp only[aN.set,aN.pM,aN.get];exact uZ p v _
theorem aN.u0:∀(p q:ho) (v:I) (t:aN),p≠q->(aN.set q v t).get p=t.get p
 |.here,.here,_,_,h=>absurd rfl h
 |.here,.l q,v,.leaf,_=>by simp[aN.set,aN.pL,aN.get]
 |.here,.l q,v,.node ..,_=>by simp[aN.set,aN.pL,aN.get]
 |.here,.r q,v,.leaf,_=>by simp[aN.set,aN.pM,aN.get]
 |.here,.r q,v,.node ..,_=>by simp[aN.set,aN.pM,aN.get]
 |.l p,.here,v,.leaf,_=>by simp[aN.set,aN.get,aN.mm]
 |.l p,.here,v,.node ..,_=>by simp[aN.set,aN.get]
 |.r p,.here,v,.leaf,_=>by simp[aN.set,aN.get,aN.mm]
 |.r p,.here,v,.node ..,_=>by simp[aN.set,aN.get]
 |.l p,.l q,v,.leaf,h=>by
  simp only[aN.set,aN.pL,aN.get]
  rw[u0 p q v _ (λe=>h (by rw[e])),aN.mm]
 |.l p,.l q,v,.node ..,h=>by
  simp only[aN.set,aN.pL,aN.get]
  exact u0 p q v _ (λe=>h (by rw[e]))
 |.r p,.r q,v,.leaf,h=>by
  simp only[aN.set,aN.pM,aN.get]
  rw[u0 p q v _ (λe=>h (by rw[e])),aN.mm]
 |.r p,.r q,v,.node ..,h=>by
  simp only[aN.set,aN.pM,aN.get]
  exact u0 p q v _ (λe=>h (by rw[e]))
 |.l p,.r q,v,.leaf,_=>by simp[aN.set,aN.pM,aN.get,aN.mm]
 |.l p,.r q,v,.node ..,_=>by simp[aN.set,aN.pM,aN.get]
 |.r p,.l q,v,.leaf,_=>by simp[aN.set,aN.pL,aN.get,aN.mm]
 |.r p,.l q,v,.node ..,_=>by simp[aN.set,aN.pL,aN.get]
theorem aN.cL(t u:Nat)(v:I)(r:aN):(aN.set (fA u) v r).get (fA t)=if t=u then v else r.get (fA t):=by
 by_cases h:t=u
 · subst h;simp[aN.uZ]
 · rw[if_neg h];exact aN.u0 _ _ _ _ (λe=>h (KS e))
theorem eB.mm(n:Nat):eB.get .leaf n=none:=rfl
theorem eB.cL:∀(f:Nat) (t:eB) (n m:Nat) (x:Option b8),n<f->(eB.kp f t n x).get m=if m=n then x else t.get m
 |0,_,n,_,_,h=>by omega
 |f+1,.leaf,0,m,x,_=>by
  cases m with
  |zero=>simp[eB.kp,eB.get]
  |succ m=>
   simp only[eB.kp,eB.get]
   have e:Nat.mod m 2=m %2:=rfl
   rcases Nat.mod_two_eq_zero_or_one m with h|h<;>simp[e,h]
 |f+1,.node l v r,0,m,x,_=>by
  cases m with
  |zero=>simp[eB.kp,eB.get]
  |succ m=>simp[eB.kp,eB.get]
 |f+1,.leaf,n+1,m,x,aC=>by
  have e (k:Nat):Nat.mod k 2=k %2:=rfl
  have au (k:Nat):Nat.div k 2=k/2:=rfl
  have bc:=λj=>cL f .leaf (n/2) j x (by omega)
  rcases Nat.mod_two_eq_zero_or_one n with h|h
  · simp only[eB.kp,e,h,au]
    cases m with
    |zero=>simp[eB.get]
    |succ m=>
     simp only[eB.get,e,au]
     rcases Nat.mod_two_eq_zero_or_one m with g|g
     · simp only[g,bc,eB.mm]
       have:(m/2=n/2)<->(m+1=n+1):=by omega
       simp only[this]
     · simp only[g,eB.mm]
       rw[if_neg (by omega)]
  · simp only[eB.kp,e,h,au]
    cases m with
    |zero=>simp[eB.get]
    |succ m=>
     simp only[eB.get,e,au]
     rcases Nat.mod_two_eq_zero_or_one m with g|g
     · simp only[g,eB.mm]
       rw[if_neg (by omega)]
     · simp only[g,bc,eB.mm]
       have:(m/2=n/2)<->(m+1=n+1):=by omega
       simp only[this]
 |f+1,.node l v r,n+1,m,x,aC=>by
  have e (k:Nat):Nat.mod k 2=k %2:=rfl
  have au (k:Nat):Nat.div k 2=k/2:=rfl
  have KT:=λj=>cL f l (n/2) j x (by omega)
  have xL:=λj=>cL f r (n/2) j x (by omega)
  rcases Nat.mod_two_eq_zero_or_one n with h|h
  · simp only[eB.kp,e,h,au]
    cases m with
    |zero=>simp[eB.get]
    |succ m=>
     simp only[eB.get,e,au]
     rcases Nat.mod_two_eq_zero_or_one m with g|g
     · simp only[g,KT]
       have:(m/2=n/2)<->(m+1=n+1):=by omega
       simp only[this]
     · simp only[g]
       rw[if_neg (by omega)]
  · simp only[eB.kp,e,h,au]
    cases m with
    |zero=>simp[eB.get]
    |succ m=>
     simp only[eB.get,e,au]
     rcases Nat.mod_two_eq_zero_or_one m with g|g
     · simp only[g]
       rw[if_neg (by omega)]
     · simp only[g,xL]
       have:(m/2=n/2)<->(m+1=n+1):=by omega
       simp only[this]
theorem J.cL(h:J)(b c:Nat)(o:Option b8):(h.set b o).get c=if c=b then o else h.get c:=
 eB.cL _ _ _ _ _ (Nat.lt_succ_self b)
theorem J.gC(h:J)(c:Nat)(o:b8):(h.push o).get c=if c=h.n then some o else h.get c:=
 eB.cL _ _ _ _ _ (Nat.lt_succ_self _)
@[simp] theorem J.Xc (h:J) (b:Nat) (o:Option b8):(h.set b o).n=h.n:=rfl
@[simp] theorem J.nY (h:J) (o:b8):(h.push o).n=h.n+1:=rfl
structure fW where
 a6:Nat
 base:Nat
 size:Nat
abbrev bd:=Nat->Option fW
def dB(μ aL:bd):Prop:=∀b i,μ b=some i->aL b=some i
theorem dB.refl(μ:bd):dB μ μ:=λ_ _ h=>h
theorem dB.trans{μ aL Ea:bd}(h:dB μ aL)(ah:dB aL Ea):dB μ Ea:=λb i e=>ah b i (h b i e)
def Aq(i:fW)(off len:Nat):cb->Value->Prop
 |.exact c,v=>v=.slice (some ⟨i.a6,i.base+off,none⟩) len c
 |.aH fx,v=>∃c,v=.slice (some ⟨i.a6,i.base+off,none⟩) len c/\len<=c/\off+c*fx=i.size
 |.dead,v=>len=0/\∃a c,v=.slice (some a) 0 c
mutual
def a1(μ:bd):I->Value->Prop
 |.bad,_=>True
 |.bool b,v=>v=.bool b
 |.int k n,v=>v=.int k n
 |.str s,v=>∃t,v=.string t/\t.data.toList=s
 |.c_,v=>v=.pointer none
 |.ptr b off,v=>∃i,μ b=some i/\v=.pointer (some ⟨i.a6,i.base+off,none⟩)
 |.bn,v=>v=.slice none 0 0
 |.slice b off len cap,v=>∃i,μ b=some i/\Aq i off len cap v
 |.fy,v=>v=.map none
 |.map r,v=>∃i,μ r=some i/\v=.map (some i.a6)
 |.h5,v=>v=.nilFunc
 |.fn f first caps,v=>∃ax cs,v=.func (.func f) ⟨ax⟩ ⟨cs⟩/\bL μ first ax/\bL μ caps cs
 |.b7 l,v=>∃i,μ l=some i/\v=.func (.yield i.a6) ⟨[]⟩ ⟨[]⟩
 |.ej,v=>v=.nilIface
 |.iface t x,v=>∃y,v=.iface t y/\a1 μ x y
 |.agg cs,v=>∃l,v=.agg ⟨l⟩/\bL μ cs l
 |.aF vs,v=>∃l,v=.tuple ⟨l⟩/\bL μ vs l
def bL(μ:bd):List I->List Value->Prop
 |[],l=>l=[]
 |a::as,l=>∃v vs,l=v::vs/\a1 μ a v/\bL μ as vs
end
mutual
theorem a1.mono{μ aL:bd}(hle:dB μ aL):∀(a:I) (v:Value),a1 μ a v->a1 aL a v
 |.bad,_,_=>trivial
 |.bool _,_,h=>h
 |.int _ _,_,h=>h
 |.str _,_,h=>h
 |.c_,_,h=>h
 |.ptr b off,_,⟨i,h,e⟩=>⟨i,hle _ _ h,e⟩
 |.bn,_,h=>h
 |.slice b off len cap,_,⟨i,h,e⟩=>⟨i,hle _ _ h,e⟩
 |.fy,_,h=>h
 |.map r,_,⟨i,h,e⟩=>⟨i,hle _ _ h,e⟩
 |.h5,_,h=>h
 |.fn f first caps,_,⟨ax,cs,e,h1,aa⟩=>⟨ax,cs,e,bL.mono hle _ _ h1,bL.mono hle _ _ aa⟩
 |.b7 l,_,⟨i,h,e⟩=>⟨i,hle _ _ h,e⟩
 |.ej,_,h=>h
 |.iface t x,_,⟨y,e,h⟩=>⟨y,e,a1.mono hle _ _ h⟩
 |.agg cs,_,⟨l,e,h⟩=>⟨l,e,bL.mono hle _ _ h⟩
 |.aF cs,_,⟨l,e,h⟩=>⟨l,e,bL.mono hle _ _ h⟩
theorem bL.mono{μ aL:bd}(hle:dB μ aL):∀(as:List I) (vs:List Value),bL μ as vs->bL aL as vs
 |[],_,h=>h
 |a::as,_,⟨v,vs,e,h1,aa⟩=>⟨v,vs,e,a1.mono hle _ _ h1,bL.mono hle _ _ aa⟩
end
mutual
theorem jq(μ:bd):∀v:Value,a1 μ (mT v) v
 |.bool b=>rfl
 |.int k n=>rfl
 |.string s=>⟨s,rfl,rfl⟩
 |.pointer none=>rfl
 |.pointer (some _)=>trivial
 |.slice none 0 0=>rfl
 |.slice none 0 (_+1)=>trivial
 |.slice none (_+1) _=>trivial
 |.slice (some _) _ _=>trivial
 |.map none=>rfl
 |.map (some _)=>trivial
 |.nilFunc=>rfl
 |.nilIface=>rfl
 |.agg ⟨cs⟩=>⟨cs,rfl,Ar μ cs⟩
 |.tuple ⟨cs⟩=>⟨cs,rfl,Ar μ cs⟩
 |.float _ _=>trivial
 |.complex _ _ _=>trivial
 |.chan _=>trivial
 |.func _ _ _=>trivial
 |.iface _ _=>trivial
theorem Ar(μ:bd):∀vs:List Value,bL μ (xz vs) vs
 |[]=>rfl
 |v::vs=>⟨v,vs,rfl,jq μ v,Ar μ vs⟩
end
theorem bL.length{μ:bd}:∀{as:List I} {vs:List Value},bL μ as vs->as.length=vs.length
 |[],_,h=>by cases h;rfl
 |a::as,_,⟨v,vs,e,_,aa⟩=>by subst e;simp[bL.length aa]
theorem bL.append{μ:bd}:∀{as bs:List I} {vs us:List Value},bL μ as vs->bL μ bs us->bL μ (as++bs) (vs++us)
 |[],_,_,_,h,ah=>by cases h;exact ah
 |a::as,_,_,_,⟨v,vs,e,h1,aa⟩,ah=>by subst e;exact⟨v,vs++_,rfl,h1,bL.append aa ah⟩
theorem bL.get{μ:bd}:∀{as:List I} {vs:List Value} (_:bL μ as vs) {j:Nat} {a:I},as[j]? =some a->∃v,vs[j]? =some v/\a1 μ a v
 |[],_,_,j,a,h=>by simp at h
 |x::as,_,⟨v,vs,e,h1,aa⟩,0,a,h=>by
  subst e;simp at h;subst h;exact⟨v,rfl,h1⟩
 |x::as,_,⟨v,vs,e,h1,aa⟩,j+1,a,h=>by
  subst e;simp at h;simpa using bL.get aa h
theorem bL.tb{μ:bd}:∀{as:List I} {vs:List Value},as.length=vs.length->(∀(j:Nat) (a:I),as[j]? =some a->∃v,vs[j]? =some v/\a1 μ a v)->bL μ as vs
 |[],[],_,_=>rfl
 |[],_::_,h,_=>by simp at h
 |_::_,[],h,_=>by simp at h
 |a::as,v::vs,h,af=>by
  refine⟨v,vs,rfl,?_,bL.tb (by simpa using h) λj x U=>?_⟩
  · obtain⟨u,hu,r⟩:=af 0 a rfl
    simp at hu;subst hu;exact r
  · simpa using af (j+1) x (by simpa using U)
theorem bL.map{μ:bd}{q8:Type}(g:q8->I)(ρ:q8->Value)(h:∀x,a1 μ (g x) (ρ x)):∀l:List q8,bL μ (l.map g) (l.map ρ)
 |[]=>rfl
 |x::l=>⟨_,_,rfl,h x,bL.map g ρ h l⟩
theorem a1.cells{μ:bd}{a:I}{v:Value}(h:a1 μ a v)(ae:a≠ .bad):bL μ a.cells v.cells.toList:=by
 cases a with
 |bad=>exact absurd rfl ae
 |agg cs=>obtain⟨l,rfl,ar⟩:=h;exact ar
 |aF vs=>obtain⟨l,rfl,ar⟩:=h;exact⟨_,_,rfl,⟨l,rfl,ar⟩,rfl⟩
 |bool b=>cases h;exact⟨_,_,rfl,rfl,rfl⟩
 |int k n=>cases h;exact⟨_,_,rfl,rfl,rfl⟩
 |str s=>obtain⟨t,rfl,e⟩:=h;exact⟨_,_,rfl,⟨t,rfl,e⟩,rfl⟩
 |c_=>cases h;exact⟨_,_,rfl,rfl,rfl⟩
 |ptr b off=>obtain⟨i,e,rfl⟩:=h;exact⟨_,_,rfl,⟨i,e,rfl⟩,rfl⟩
 |bn=>cases h;exact⟨_,_,rfl,rfl,rfl⟩
 |slice b off len cap=>
  obtain⟨i,e,ab⟩:=h
  have:v.cells=#[v]:=by
   cases cap with
   |exact c=>cases ab;rfl
   |aH fx=>obtain⟨c,rfl,_⟩:=ab;rfl
   |dead=>obtain⟨_,a,c,rfl⟩:=ab;rfl
  rw[this];exact⟨_,_,rfl,⟨i,e,ab⟩,rfl⟩
 |fy=>cases h;exact⟨_,_,rfl,rfl,rfl⟩
 |map r=>obtain⟨i,e,rfl⟩:=h;exact⟨_,_,rfl,⟨i,e,rfl⟩,rfl⟩
 |h5=>cases h;exact⟨_,_,rfl,rfl,rfl⟩
 |fn f a b=>obtain⟨ax,cs,rfl,h1,aa⟩:=h;exact⟨_,_,rfl,⟨ax,cs,rfl,h1,aa⟩,rfl⟩
 |b7 l=>obtain⟨i,e,rfl⟩:=h;exact⟨_,_,rfl,⟨i,e,rfl⟩,rfl⟩
 |ej=>cases h;exact⟨_,_,rfl,rfl,rfl⟩
 |iface t x=>obtain⟨y,rfl,aP⟩:=h;exact⟨_,_,rfl,⟨y,rfl,aP⟩,rfl⟩
theorem a1.u1{μ:bd}{a:I}{v:Value}(h:a1 μ a v)(ab:a.ca=true):v.oneCell'=true:=by
 cases a with
 |bad=>simp[I.ca] at ab
 |agg cs=>simp[I.ca] at ab
 |aF vs=>simp[I.ca] at ab
 |bool b=>cases h;rfl
 |int k n=>cases h;rfl
 |str s=>obtain⟨t,rfl,e⟩:=h;rfl
 |c_=>cases h;rfl
 |ptr b off=>obtain⟨i,e,rfl⟩:=h;rfl
 |bn=>cases h;rfl
 |slice b off len cap=>
  obtain⟨i,e,ab⟩:=h
  cases cap with
  |exact c=>cases ab;rfl
  |aH fx=>obtain⟨c,rfl,_⟩:=ab;rfl
  |dead=>obtain⟨_,a,c,rfl⟩:=ab;rfl
 |fy=>cases h;rfl
 |map r=>obtain⟨i,e,rfl⟩:=h;rfl
 |h5=>cases h;rfl
 |fn f a b=>obtain⟨ax,cs,rfl,h1,aa⟩:=h;rfl
 |b7 l=>obtain⟨i,e,rfl⟩:=h;rfl
 |ej=>cases h;rfl
 |iface t x=>obtain⟨y,rfl,aP⟩:=h;rfl
def hG(need:Nat)(μ:bd)(r:aN)(bF:Array Value):Prop:=∀t,Nat.testBit need t=true->a1 μ (r.get (fA t)) (bF.getD t undef)
theorem hG.mono{need:Nat}{μ aL:bd}{r:aN}{bF:Array Value}(hle:dB μ aL)(h:hG need μ r bF):hG need aL r bF:=λt bk=>(h t bk).mono hle
inductive nc(μ:bd):bw->Deferred->Prop where
 |call (f:Nat) (args:List I) (cap vs:List Value) (h:bL μ args (vs++cap)):nc μ (.call f args) {target:=.fn (.func f) ⟨cap⟩,args:=⟨vs⟩}
 |collected (r:Nat) (i:fW) (h:μ r=some i):nc μ (.collected r) {target:=.collected i.a6,args:=#[]}
theorem nc.mono{μ aL:bd}(hle:dB μ aL){a:bw}{d:Deferred}(h:nc μ a d):nc aL a d:=by
 cases h with
 |call f args cap vs h=>exact .call f args cap vs (h.mono hle)
 |collected r i h=>exact .collected r i (hle _ _ h)
def eD(μ:bd):List bw->List Deferred->Prop
 |[],l=>l=[]
 |a::as,l=>∃d ds,l=d::ds/\nc μ a d/\eD μ as ds
theorem eD.mono{μ aL:bd}(hle:dB μ aL):∀{as:List bw} {ds:List Deferred},eD μ as ds->eD aL as ds
 |[],_,h=>h
 |_::_,_,⟨d,ds,e,h1,aa⟩=>⟨d,ds,e,h1.mono hle,eD.mono hle aa⟩
theorem eD.append{μ:bd}:∀{as bs:List bw} {ds es:List Deferred},eD μ as ds->eD μ bs es->eD μ (as++bs) (ds++es)
 |[],_,_,_,h,ah=>by cases h;exact ah
 |_::_,_,_,_,⟨d,ds,e,h1,aa⟩,ah=>by subst e;exact⟨d,ds++_,rfl,h1,eD.append aa ah⟩
def pN(μ:bd)(e:dj)(m:MapEntry):Prop:=a1 μ e.key m.key/\a1 μ e.val m.val/\e.born=m.born
def eE(μ:bd):List dj->List MapEntry->Prop
 |[],l=>l=[]
 |e::es,l=>∃m ms,l=m::ms/\pN μ e m/\eE μ es ms
theorem pN.mono{μ aL:bd}(hle:dB μ aL){e:dj}{m:MapEntry}(h:pN μ e m):pN aL e m:=⟨h.1.mono hle,h.2.1.mono hle,h.2.2⟩
theorem eE.mono{μ aL:bd}(hle:dB μ aL):∀{es:List dj} {ms:List MapEntry},eE μ es ms->eE aL es ms
 |[],_,h=>h
 |_::_,_,⟨m,ms,e,h1,aa⟩=>⟨m,ms,e,h1.mono hle,eE.mono hle aa⟩
def tc(μ:bd)(cs:List I)(c:Array Value)(base:Nat):Prop:=∀(j:Nat) (v:I),cs[j]? =some v->∃u,c[base+j]? =some u/\a1 μ v u
def Eb(k:e3)(cs:List I)(i:fW)(bB ag eK eL:Nat):Prop:=match k with
 |.own=>i.base=0/\i.size=cs.length/\eK=bB/\eL=ag
 |.aH=>cs.length<=i.size/\∀j,j<i.size->eK<=i.base+j->i.base+j<eL->bB<=j/\j<ag
 |.ro=>True
 |.fz=>True
def j1(μ:bd)(o:b8)(i:fW)(w:World):Prop:=match o with
 |.cells cs el k bB ag=>∃c eK eL,w.heap[i.a6]? =some (.cells c el (eK,eL))/\tc μ cs c i.base/\i.base+i.size=c.size/\Eb k cs i bB ag eK eL
 |.map es clock=>∃ents,w.heap[i.a6]? =some (.map ⟨ents⟩ clock)/\eE μ es ents
 |.oG s pos=>i.base=0/\∃full,w.heap[i.a6]? =some (.stringIter full pos)/\full.data.toList.drop pos=s
 |.mapIter none since seen last=>i.base=0/\w.heap[i.a6]? =some (.mapIter none since ⟨seen⟩ last)
 |.mapIter (some m) since seen last=>i.base=0/\∃j,μ m=some j/\w.heap[i.a6]? =some (.mapIter (some j.a6) since ⟨seen⟩ last)
 |.loop st e4 need kW params as b2 cK=>∃bF gb fn,μ cK=some gb/\w.heap[i.a6]? =some (.loop {state:=st,pending:=e4,fn:=fn,tmps:=bF,params:=⟨params⟩,assign:=as,body:=b2,defers:=gb.a6})/\hG need μ kW bF/\fQ bF.size as=true/\fQ bF.size b2=true/\∀t∈params,t<bF.size
 |.defrd none=>w.heap[i.a6]? =some (.deferred none)
 |.defrd (some ds)=>∃l,w.heap[i.a6]? =some (.deferred (some l))/\eD μ ds l
 |.raw o=>i.base=0/\w.heap[i.a6]? =some o
theorem j1.mono{μ aL:bd}(hle:dB μ aL){o:b8}{i:fW}{w w':World}(hw:w'.heap[i.a6]? =w.heap[i.a6]?)(h:j1 μ o i w):j1 aL o i w':=by
 cases o with
 |cells cs el k bB ag=>
  obtain⟨c,eK,eL,h1,aa,ao⟩:=h
  exact⟨c,eK,eL,hw.trans h1,λj v e=>let⟨u,hu,r⟩:=aa j v e;⟨u,hu,r.mono hle⟩,ao⟩
 |map es clock=>obtain⟨ents,h1,aa⟩:=h;exact⟨ents,hw.trans h1,aa.mono hle⟩
 |oG s pos=>obtain⟨aA,full,h1,aa⟩:=h;exact⟨aA,full,hw.trans h1,aa⟩
 |mapIter m since seen last=>
  cases m with
  |none=>exact⟨h.1,hw.trans h.2⟩
  |some m=>obtain⟨aA,j,h1,aa⟩:=h;exact⟨aA,j,hle _ _ h1,hw.trans aa⟩
 |loop st e4 fn kW params as b2 cK=>obtain⟨bF,gb,As,h1,aa,ao,aI⟩:=h;exact⟨bF,gb,As,hle _ _ h1,hw.trans aa,ao.mono hle,aI⟩
 |defrd calls=>
  cases calls with
  |none=>exact hw.trans h
  |some ds=>obtain⟨l,h1,aa⟩:=h;exact⟨l,hw.trans h1,aa.mono hle⟩
 |raw o=>exact⟨h.1,hw.trans h.2⟩
def b8.nd:b8->Bool
 |.cells _ _ .ro _ _=>true
 |.raw _=>true
 |_=>false
structure bg(μ:bd)(H:J)(w:World):Prop where
 rel:∀b o i,H.get b=some o->μ b=some i->j1 μ o i w
 inj:∀b c i j,H.get b≠none->(∃o,H.get c=some o/\o.nd=false)->μ b=some i->μ c=some j->i.a6=j.a6->b=c
 lt:∀b i,μ b=some i->b<H.n/\i.a6<w.heap.size
 bound:∀b,H.n<=b->H.get b=none
structure bN(μ:bd)(H:J)(w:World)(aL:bd)(aD:J)(w':World):Prop where
 le:dB μ aL
 size:w.heap.size<=w'.heap.size
 n:H.n<=aD.n
 live:∀b,b<H.n->aD.get b≠none->H.get b≠none
 idle:∀b,b<H.n->μ b=none->aD.get b=H.get b
 old:∀r,r<w.heap.size->(∀b i,H.get b≠none->μ b=some i->i.a6≠r)->w'.heap[r]? =w.heap[r]?
 new:∀b i,μ b=none->aL b=some i->H.n<=b/\(w.heap.size<=i.a6\/∃c o j,H.get c=some o/\o.nd=false/\μ c=some j/\j.a6=i.a6)
 ro:∀b o i,H.get b=some o->o.nd=true->μ b=some i->aD.get b=some o/\w'.heap[i.a6]? =w.heap[i.a6]?
 os:w'.os=w.os
 out:w'.output=w.output
 tape:w'.tape=w.tape
 drawn:w.drawn<=w'.drawn
theorem bN.refl(μ:bd)(H:J)(w:World):bN μ H w μ H w where
 le:=dB.refl μ
 size:=Nat.le_refl _
 n:=Nat.le_refl _
 live:=λ_ _ h=>h
 idle:=λ_ _ _=>rfl
 old:=λ_ _ _=>rfl
 new:=λb i h ah=>by rw[h] at ah;cases ah
 ro:=λ_ _ _ h _ _=>⟨h,rfl⟩
 os:=rfl
 out:=rfl
 tape:=rfl
 drawn:=Nat.le_refl _
theorem bN.trans{μ dN xM:bd}{H H1 cy:J}{w b5 bQ:World}(af:bg μ H w)(gN:bg dN H1 b5)(h:bN μ H w dN H1 b5)(ah:bN dN H1 b5 xM cy bQ):bN μ H w xM cy bQ where
 le:=h.le.trans ah.le
 size:=Nat.le_trans h.size ah.size
 n:=Nat.le_trans h.n ah.n
 live:=λb ae ar=>h.live b ae (ah.live b (Nat.lt_of_lt_of_le ae h.n) ar)
 idle:=λb ae hm=>by
  rw[<-h.idle b ae hm]
  refine ah.idle b (Nat.lt_of_lt_of_le ae h.n) ?_
  cases h1:dN b with
  |none=>rfl
  |some i=>exact absurd (h.new b i hm h1).1 (Nat.not_le.2 ae)
 old:=λr aj aC=>by
  rw[ah.old r (Nat.lt_of_lt_of_le aj h.size),h.old r aj aC]
  intro b i ar hm he
  cases xN:μ b with
  |some j=>
   have:=h.le b j xN
   rw[hm] at this;cases this
   exact aC b i (h.live b (af.lt b i xN).1 ar) xN he
  |none=>
   obtain⟨_,ag|⟨c,o,j,ab,_,aG,nf⟩⟩:=h.new b i xN hm
   · omega
   · exact aC c j (by rw[ab];simp) aG (nf.trans he)
 new:=λb i ae ev=>by
  cases h1:dN b with
  |some j=>
   have:=ah.le b j h1
   rw[ev] at this;cases this
   exact h.new b i ae h1
  |none=>
   obtain⟨aC,ag|⟨c,o,j,ab,gO,aG,nf⟩⟩:=ah.new b i h1 ev
   · exact⟨Nat.le_trans h.n aC,.inl (Nat.le_trans h.size ag)⟩
   · refine⟨Nat.le_trans h.n aC,?_⟩
     cases aA:μ c with
     |some gZ=>
      have:=h.le c gZ aA
      rw[aG] at this;cases this
      have td:H.get c≠none:=h.live c (af.lt c j aA).1 (by rw[ab];simp)
      cases an:H.get c with
      |none=>exact absurd an td
      |some u2=>
       cases te:u2.nd with
       |false=>exact .inr ⟨c,u2,j,an,te,aA,nf⟩
       |true=>
        have:=(h.ro c u2 j an te aA).1
        rw[ab] at this;cases this
        rw[gO] at te;cases te
     |none=>
      obtain⟨_,ag|⟨c',o',gZ,u3,KU,pO,KV⟩⟩:=h.new c j aA aG
      · exact .inl (nf▸ag)
      · exact .inr ⟨c',o',gZ,u3,KU,pO,KV.trans nf⟩
 ro:=λb o i ae aj ag=>by
  obtain⟨h1,aa⟩:=h.ro b o i ae aj ag
  obtain⟨ao,aI⟩:=ah.ro b o i h1 aj (h.le b i ag)
  exact⟨ao,aI.trans aa⟩
 os:=ah.os.trans h.os
 out:=ah.out.trans h.out
 tape:=ah.tape.trans h.tape
 drawn:=Nat.le_trans h.drawn ah.drawn
theorem bg.of_heap{μ:bd}{H:J}{w w':World}(h:bg μ H w)(he:w'.heap=w.heap):bg μ H w' where
 rel:=λb o i ae ag=>(h.rel b o i ae ag).mono (dB.refl μ) (by rw[he])
 inj:=h.inj
 lt:=λb i ag=>by rw[he];exact h.lt b i ag
 bound:=h.bound
theorem bN.of_heap{μ:bd}{H:J}{w w':World}(he:w'.heap=w.heap)(aQ:w'.os=w.os)(a8:w'.output=w.output)(bk:w'.tape=w.tape)(ak:w.drawn<=w'.drawn:=by first|exact Nat.le_refl _|exact Nat.le_succ _|assumption):bN μ H w μ H w' where
 le:=dB.refl μ
 size:=by rw[he];exact Nat.le_refl _
 n:=Nat.le_refl _
 live:=λ_ _ h=>h
 idle:=λ_ _ _=>rfl
 old:=λ_ _ _=>by rw[he]
 new:=λb i h ah=>by rw[h] at ah;cases ah
 ro:=λ_ _ _ h _ _=>⟨h,by rw[he]⟩
 os:=aQ
 out:=a8
 tape:=bk
 drawn:=ak
def fC(μ:bd)(b:Nat)(i:fW):bd:=λc=>if c=b then some i else μ c
theorem fD(μ:bd)(b:Nat)(i:fW):fC μ b i b=some i:=by simp[fC]
theorem gD(μ:bd){b c:Nat}(i:fW)(h:c≠b):fC μ b i c=μ c:=by simp[fC,h]
theorem bg.fresh{μ:bd}{H:J}{w:World}(h:bg μ H w):μ H.n=none:=by
 cases e:μ H.n with
 |none=>rfl
 |some i=>exact absurd (h.lt _ _ e).1 (Nat.lt_irrefl _)
theorem bg.ng{μ:bd}{H:J}{w:World}(h:bg μ H w)(i:fW):dB μ (fC μ H.n i):=λb j e=>by
 rw[gD];exact e
 intro ae;subst ae;rw[h.fresh] at e;cases e
theorem bg.alloc{μ:bd}{H:J}{w:World}(h:bg μ H w)(o:b8)(x:Obj)(sz:Nat)
  (aj:j1 (fC μ H.n ⟨w.heap.size,0,sz⟩) o ⟨w.heap.size,0,sz⟩ (w.alloc x)):
  bg (fC μ H.n ⟨w.heap.size,0,sz⟩) (H.push o) (w.alloc x)/\bN μ H w (fC μ H.n ⟨w.heap.size,0,sz⟩) (H.push o) (w.alloc x):=by
 have hle:=h.ng ⟨w.heap.size,0,sz⟩
 have hold:∀r,r<w.heap.size->(w.alloc x).heap[r]? =w.heap[r]? :=λr aj=>by
  simp only[World.alloc,Array.getElem?_push];rw[if_neg (by omega)]
 constructor
 · refine⟨λb bY i ae ag=>?_,λb c i j ae ab ag aG e=>?_,λb i ag=>?_,λb ae=>?_⟩
   · rw[J.gC] at ae
     by_cases e:b=H.n
     · rw[if_pos e] at ae;subst e;cases ae
       rw[fD] at ag;cases ag
       exact aj
     · rw[if_neg e] at ae;rw[gD _ _ e] at ag
       exact(h.rel b bY i ae ag).mono hle (hold _ (h.lt b i ag).2)
   · by_cases av:b=H.n
     · by_cases au:c=H.n
       · rw[av,au]
       · subst av;rw[fD] at ag;cases ag
         rw[gD _ _ au] at aG
         have:=(h.lt c j aG).2
         simp only at e;omega
     · by_cases au:c=H.n
       · subst au;rw[fD] at aG;cases aG
         rw[gD _ _ av] at ag
         have:=(h.lt b i ag).2
         simp only at e;omega
       · rw[gD _ _ av] at ag;rw[gD _ _ au] at aG
         rw[J.gC,if_neg av] at ae
         rw[J.gC,if_neg au] at ab
         exact h.inj b c i j ae ab ag aG e
   · by_cases e:b=H.n
     · subst e;rw[fD] at ag;cases ag;simp
     · rw[gD _ _ e] at ag
       have:=h.lt b i ag
       simp only[J.nY,World.size_alloc];omega
   · simp only[J.nY] at ae
     rw[J.gC,if_neg (by omega)];exact h.bound b (by omega)
 · refine⟨hle,by simp,by simp,λb ae ar=>?_,λb ae _=>(by rw[J.gC,if_neg (by omega)]),λr aj _=>hold r aj,λb i ae ev=>?_,λb bY i ae _ ag=>?_,rfl,rfl,rfl,Nat.le_refl _⟩
   · rw[J.gC,if_neg (by omega)] at ar;exact ar
   · by_cases e:b=H.n
     · subst e;rw[fD] at ev;cases ev;exact⟨Nat.le_refl _,.inl (Nat.le_refl _)⟩
     · rw[gD _ _ e,ae] at ev;cases ev
   · have:=h.lt b i ag
     rw[J.gC,if_neg (by omega)]
     exact⟨ae,hold _ this.2⟩
theorem bg.update{μ:bd}{H:J}{w w':World}(h:bg μ H w){b:Nat}{o o':b8}{i:fW}(ae:H.get b=some o)(gO:o.nd=false)(ag:μ b=some i)
  (ad:w'.heap.size=w.heap.size)(aQ:∀r,r≠i.a6->w'.heap[r]? =w.heap[r]?)(u4:w'.os=w.os)(Au:w'.output=w.output)(Av:w'.tape=w.tape)(aj:j1 μ o' i w')(hdr:w.drawn<=w'.drawn:=by first|exact Nat.le_refl _|assumption):
  bg μ (H.set b (some o')) w'/\bN μ H w μ (H.set b (some o')) w':=by
 have td:H.get b≠none:=by rw[ae];simp
 have oQ:∀c,(H.set b (some o')).get c≠none->H.get c≠none:=λc ab=>by
  rw[J.cL] at ab
  by_cases e:c=b
  · subst e;exact td
  · rw[if_neg e] at ab;exact ab
 constructor
 · refine⟨λc pP j ab aG=>?_,λc d j k ab ak=>h.inj c d j k (oQ c ab) (by
     obtain⟨x,U,u5⟩:=ak
     rw[J.cL] at U
     by_cases e:d=b
     · subst e;exact⟨o,ae,gO⟩
     · rw[if_neg e] at U;exact⟨x,U,u5⟩),λc j aG=>by rw[ad];exact h.lt c j aG,λc ab=>?_⟩
   · rw[J.cL] at ab
     by_cases e:c=b
     · subst e;rw[if_pos rfl] at ab;cases ab
       rw[ag] at aG;cases aG;exact aj
     · rw[if_neg e] at ab
       refine(h.rel c pP j ab aG).mono (dB.refl μ) (aQ _ λcw=>e (h.inj c b j i (by rw[ab];simp) ⟨o,ae,gO⟩ aG ag cw))
   · rw[J.cL,if_neg]
     · exact h.bound c ab
     · intro e;subst e;have:=(h.lt c i ag).1;simp at ab;omega
 · refine⟨dB.refl μ,by omega,by simp,λc _ ab=>oQ c ab,λc _ hm=>(by rw[J.cL,if_neg];intro e;subst e;rw[ag] at hm;cases hm),λr aj aC=>aQ r λe=>aC b i td ag e.symm,λc j h1 aa=>(by rw[h1] at aa;cases aa),λc pP j ab pQ aG=>?_,u4,Au,Av,hdr⟩
   have b9:c≠b:=by intro e;subst e;rw[ae] at ab;cases ab;rw[gO] at pQ;cases pQ
   refine⟨by rw[J.cL,if_neg b9];exact ab,aQ _ λe=>b9 (h.inj c b j i (by rw[ab];simp) ⟨o,ae,gO⟩ aG ag e)⟩
end aS
namespace aS
open Go
theorem add_plain(b o n:Nat):(⟨b,o,none⟩:Addr).add n=⟨b,o+n,none⟩:=by
 unfold Addr.add
 by_cases h:n=0
 · simp[h]
 · simp[h]
theorem ks{α:Type}:∀(n:Nat) (l:List α),nth n l=l[n]?
 |0,[]=>rfl
 |_+1,[]=>rfl
 |0,_::_=>rfl
 |n+1,_::l=>by simpa[nth] using ks n l
theorem lL{α:Type}:∀(n:Nat) (l:List α),hQ n l=l.drop n
 |0,l=>by simp[hQ]
 |_+1,[]=>by simp[hQ]
 |n+1,_::l=>by simpa[hQ] using lL n l
theorem q9:∀(n:Nat) (l r:List I),takeN n l=some r->n<=l.length/\r=l.take n
 |0,l,r,h=>by simp[takeN] at h;subst h;simp
 |_+1,[],r,h=>by simp[takeN] at h
 |n+1,a::l,r,h=>by
  simp only[takeN] at h
  cases e:takeN n l with
  |none=>simp[e] at h
  |some r'=>
   simp[e] at h;subst h
   obtain⟨h1,aa⟩:=q9 n l r' e
   simp[aa];omega
theorem xO:∀(n:Nat) (vs cs r:List I),putCells n vs cs=some r->
  r.length=cs.length/\(vs≠[]->n+vs.length<=cs.length)/\(∀v∈vs,v.ca=true)/\∀j,r[j]? =if n<=j/\j<n+vs.length then vs[j-n]? else cs[j]?
 |0,[],cs,r,h=>by
  simp[putCells] at h;subst h
  refine⟨rfl,λh=>absurd rfl h,λv aM=>(by cases aM),λj=>by rw[if_neg (by simp)]⟩
 |0,_::_,[],r,h=>by simp[putCells] at h
 |0,v::vs,c::cs,r,h=>by
  simp only[putCells] at h
  cases ab:v.ca with
  |false=>simp[ab] at h
  |true=>
   simp only[ab] at h
   cases e:putCells 0 vs cs with
   |none=>simp[e] at h
   |some r'=>
    simp[e] at h;subst h
    obtain⟨h1,aa,ao,aI⟩:=xO 0 vs cs r' e
    refine⟨by simp[h1],λ_=>?_,λx U=>?_,λj=>?_⟩
    · cases vs with
      |nil=>simp
      |cons a l=>have:=aa (by simp);simp at this⊢;omega
    · cases U with
      |head=>exact ab
      |tail _ U=>exact ao x U
    · cases j with
      |zero=>simp
      |succ j=>simpa using aI j
 |n+1,[],cs,r,h=>by
  simp[putCells] at h;subst h
  refine⟨rfl,λh=>absurd rfl h,λv aM=>(by cases aM),λj=>by rw[if_neg (by simp)]⟩
 |n+1,_::_,[],r,h=>by simp[putCells] at h
 |n+1,v::vs,c::cs,r,h=>by
  simp only[putCells] at h
  cases e:putCells n (v::vs) cs with
  |none=>simp[e] at h
  |some r'=>
   simp[e] at h;subst h
   obtain⟨h1,aa,ao,aI⟩:=xO n (v::vs) cs r' e
   refine⟨by simp[h1],λ_=>?_,ao,λj=>?_⟩
   · have:=aa (by simp);simp at this⊢;omega
   · cases j with
     |zero=>simp
     |succ j=>
      have:=aI j
      simp only[List.getElem?_cons_succ,this,List.length_cons]
      have av:(n+1<=j+1/\j+1<n+1+(vs.length+1))<->(n<=j/\j<n+(vs.length+1)):=by omega
      have au:j+1-(n+1)=j-n:=by omega
      simp only[av,au]
theorem Ec{w:World}{a6 el eK eL:Nat}{c:Array Value}(h:w.heap[a6]? =some (.cells c el (eK,eL)))(k:Nat):w.cell? ⟨a6,k,none⟩=c[k]? :=by
 simp[World.cell?,h]
theorem Ed{μ:bd}{H:J}{w:World}(af:bg μ H w){b off:Nat}{i:fW}(ag:μ b=some i){cs:List I}{el bB dV:Nat}{k:e3}(ae:H.get b=some (.cells cs el k bB dV))
  {v:I}(aM:cs[off]? =some v):∃u,w.cell? ⟨i.a6,i.base+off,none⟩=some u/\a1 μ v u:=by
 obtain⟨c,eK,eL,h1,aa,_⟩:=af.rel b _ i ae ag
 obtain⟨u,hu,r⟩:=aa off v aM
 exact⟨u,by rw[Ec h1,hu],r⟩
theorem Ee{P:Program}{w:World}{a:Addr}{u:Value}(h:w.cell? a=some u):(_root_.Go.load a).run P w=.ok u w:=by
 rw[run_load];simp[h]
theorem KW{P:Program}{μ:bd}{H:J}{w:World}(af:bg μ H w){b:Nat}{i:fW}(ag:μ b=some i){cs:List I}{el bB dV:Nat}{k:e3}(ae:H.get b=some (.cells cs el k bB dV))(off:Nat):
  ∀(n s:Nat) (acc:Array Value) (pR:List I),takeN n (hQ (off+s) cs)=some pR->
   ∃us:List Value,(loadCellsFrom ⟨i.a6,i.base+off,none⟩ s n acc).run P w=.ok (acc++us.toArray) w/\bL μ pR us:=by
 intro n
 induction n with
 |zero=>
  intro s acc pR h
  simp[takeN] at h;subst h
  exact⟨[],by simp[loadCellsFrom],rfl⟩
 |succ n bc=>
  intro s acc pR h
  rw[lL] at h
  cases ak:cs.drop (off+s) with
  |nil=>rw[ak] at h;simp[takeN] at h
  |cons a l=>
   rw[ak] at h
   simp only[takeN] at h
   cases e:takeN n l with
   |none=>simp[e] at h
   |some r=>
    simp[e] at h;subst h
    have aJ:cs[off+s]? =some a:=by
     have:=congrArg (·[0]?) ak
     simpa[List.getElem?_drop] using this
    have ar:l=hQ (off+(s+1)) cs:=by
     rw[lL]
     have:=congrArg (List.drop 1) ak
     simp only[List.drop_drop,List.drop_succ_cons,List.drop_zero] at this
     rw[<-this];congr 1
    obtain⟨u,hu,aj⟩:=Ed af ag ae aJ
    obtain⟨us,h1,aa⟩:=bc (s+1) (acc.push u) r (by rw[<-ar];exact e)
    refine⟨u::us,?_,⟨u,us,rfl,aj,aa⟩⟩
    have nh:w.cell? ((⟨i.a6,i.base+off,none⟩:Addr).add s)=some u:=by rw[add_plain,Nat.add_assoc];exact hu
    simp only[loadCellsFrom,Sem.run_bind,Ee nh,Result.andThen_ok,h1]
    congr 1
    apply Array.ext'
    simp
theorem pS{P:Program}{μ:bd}{H:J}{w:World}(af:bg μ H w){b off n:Nat}{i:fW}(ag:μ b=some i){pR:List I}(h:loadCells H b off n=some pR):
  ∃us:List Value,(_root_.Go.loadCells ⟨i.a6,i.base+off,none⟩ n).run P w=.ok ⟨us⟩ w/\bL μ pR us:=by
 unfold loadCells at h
 split at h
 · rename_i cs el k bB dV ae
   obtain⟨us,h1,aa⟩:=KW (P:=P) af ag ae off n 0 #[] pR h
   exact⟨us,by simpa[_root_.Go.loadCells] using h1,aa⟩
 · cases h
theorem Aw{P:Program}{μ:bd}{H:J}{w:World}(af:bg μ H w){b off:Nat}{i:fW}(ag:μ b=some i){v:I}(h:aO H b off=some v):
  ∃u,(_root_.Go.load ⟨i.a6,i.base+off,none⟩).run P w=.ok u w/\a1 μ v u:=by
 unfold aO at h
 split at h
 · rename_i cs el k bB dV ae
   rw[ks] at h
   obtain⟨u,hu,aj⟩:=Ed af ag ae h
   exact⟨u,Ee hu,aj⟩
 · cases h
theorem Ef(P:Program)(a6 k:Nat):∀(vs:List Value) (w:World) (i:Nat) (c:Array Value) (el eK eL:Nat),w.heap[a6]? =some (.cells c el (eK,eL))->
  (∀v∈vs,v.oneCell'=true)->k+i+vs.length<=c.size->(∀j,k+i<=j->j<k+i+vs.length->¬(eK<=j/\j<eL))->
  ∃w' c',(_root_.Go.storeCells ⟨a6,k,none⟩ vs i).run P w=.ok () w'/\w'.heap[a6]? =some (.cells c' el (eK,eL))/\(∀r,r≠a6->w'.heap[r]? =w.heap[r]?)/\w'.heap.size=w.heap.size/\
   w'.os=w.os/\w'.output=w.output/\(w'.tape=w.tape/\w'.drawn=w.drawn)/\c'.size=c.size/\∀j,c'[j]? =if k+i<=j/\j<k+i+vs.length then vs[j-(k+i)]? else c[j]? :=by
 intro vs
 induction vs with
 |nil=>
  intro w i c el eK eL ae _ _ _
  exact⟨w,c,by simp[_root_.Go.storeCells],ae,λ_ _=>rfl,rfl,rfl,rfl,⟨rfl,rfl⟩,rfl,λj=>by rw[if_neg (by simp)]⟩
 |cons v vs bc=>
  intro w i c el eK eL ae ab ad hf
  simp only[List.length_cons] at ad hf
  have bx:k+i<c.size:=by omega
  have q_:w.cell? ⟨a6,k+i,none⟩=some c[k+i]:=by rw[Ec ae];exact Array.getElem?_eq_getElem bx
  have Ax:w.frozen? ⟨a6,k+i,none⟩=false:=by
   have:=hf (k+i) (by omega) (by omega)
   simp only[World.frozen?,ae]
   cases h1:decide (eK<=k+i) with
   |false=>rfl
   |true=>
    cases aa:decide (k+i<eL) with
    |false=>rfl
    |true=>exact absurd ⟨of_decide_eq_true h1,of_decide_eq_true aa⟩ this
  have iC:(w.setCell ⟨a6,k+i,none⟩ v).heap[a6]? =some (.cells (c.setIfInBounds (k+i) v) el (eK,eL)):=by
   simp[World.setCell,Array.getElem?_modify,ae]
  obtain⟨w',c',h1,aa,ao,aI,bl,cg,da,cZ,oR⟩:=bc (w.setCell ⟨a6,k+i,none⟩ v) (i+1) (c.setIfInBounds (k+i) v) el eK eL iC (λx U=>ab x (.tail _ U)) (by simp;omega)
   (λj Xd xP=>hf j (by omega) (by omega))
  refine⟨w',c',?_,aa,λr aj=>?_,?_,bl,cg,da,by simpa using cZ,λj=>?_⟩
  · simp only[_root_.Go.storeCells,Sem.run_bind,add_plain,run_store P w ⟨a6,k+i,none⟩ v .plain (ab v (.head _)),q_,Ax,Bool.false_eq_true,if_false,Result.andThen_ok,h1]
  · rw[ao r aj];simp only[World.setCell,Array.getElem?_modify]
    rw[if_neg (λe=>aj e.symm)]
  · rw[aI];simp[World.setCell]
  · rw[oR j]
    by_cases e:j=k+i
    · subst e
      rw[if_neg (by omega),if_pos (by simp),Array.getElem?_setIfInBounds]
      simp[bx]
    · by_cases au:k+(i+1)<=j/\j<k+(i+1)+vs.length
      · rw[if_pos au,if_pos (by simp only[List.length_cons];omega)]
        have:j-(k+i)=(j-(k+(i+1)))+1:=by omega
        rw[this];simp
      · rw[if_neg au,if_neg (by simp only[List.length_cons];omega),Array.getElem?_setIfInBounds]
        rw[if_neg (λcw=>e cw.symm)]
theorem bL.u1{μ:bd}:∀{as:List I} {vs:List Value},bL μ as vs->(∀a∈as,a.ca=true)->∀v∈vs,v.oneCell'=true
 |[],_,h,_=>by cases h;intro v aM;cases aM
 |a::as,_,⟨v,vs,e,h1,aa⟩,ab=>by
  subst e
  intro x U
  cases U with
  |head=>exact h1.u1 (ab a (.head _))
  |tail _ U=>exact bL.u1 aa (λa aJ=>ab a (.tail _ aJ)) x U
theorem KX{k:e3}{bB ag off n:Nat}(hw:jm k bB ag off n=true){cs:List I}{i:fW}{eK eL:Nat}(hk:Eb k cs i bB ag eK eL)(dC:n=0\/off+n<=i.size):
  ∀j,i.base+off<=j->j<i.base+off+n->¬(eK<=j/\j<eL):=by
 intro j h1 aa ⟨ao,aI⟩
 cases k with
 |ro=>simp[jm] at hw
 |fz=>simp[jm] at hw
 |own=>
  obtain⟨ae,ad,rfl,rfl⟩:=hk
  simp only[jm,Bool.or_eq_true,Nat.ble_eq] at hw
  omega
 |aH=>
  obtain⟨ad,hf⟩:=hk
  simp only[jm,Bool.or_eq_true,Nat.ble_eq] at hw
  have:=hf (j-i.base) (by omega) (by omega) (by omega)
  omega
theorem u6{P:Program}{μ:bd}{H:J}{w:World}(af:bg μ H w){b off:Nat}{i:fW}(ag:μ b=some i){vs:List I}{us:List Value}(aM:bL μ vs us){aD:J}
  (h:storeCells H b off vs=some aD):
  ∃w',(_root_.Go.storeCells ⟨i.a6,i.base+off,none⟩ us).run P w=.ok () w'/\bg μ aD w'/\bN μ H w μ aD w':=by
 unfold storeCells at h
 split at h
 · rename_i cs el k bB dV ae
   split at h
   · rename_i hw
     split at h
     · rename_i bC a8
       cases h
       obtain⟨dH,ea,g_,hU⟩:=xO _ _ _ _ a8
       obtain⟨c,eK,eL,h1,aa,ao,aI⟩:=af.rel b _ i ae ag
       have hlen:=aM.length
       have bp:vs≠[]->off+vs.length<=i.size/\i.base+off+vs.length<=c.size:=λb9=>by
        have:=ea b9
        have nZ:=aa (cs.length-1) (cs[cs.length-1]'(by cases vs with|nil=>exact absurd rfl b9|cons a l=>simp at this;omega)) (List.getElem?_eq_getElem _)
        obtain⟨u,hu,_⟩:=nZ
        have bx:i.base+(cs.length-1)<c.size:=by
         rcases Nat.lt_or_ge (i.base+(cs.length-1)) c.size with h|h
         · exact h
         · rw[Array.getElem?_eq_none h] at hu;cases hu
        have ni:0<vs.length:=by cases vs with|nil=>exact absurd rfl b9|cons a l=>simp
        cases k with
        |ro=>simp[jm] at hw
        |fz=>simp[jm] at hw
        |own=>obtain⟨bO,a2,_⟩:=aI;omega
        |aH=>obtain⟨bO,_⟩:=aI;omega
       by_cases b9:vs=[]
       · subst b9
         have:us=[]:=by cases us with|nil=>rfl|cons a l=>simp at hlen
         subst this
         have gf:bC=cs:=by
          apply List.ext_getElem?
          intro j;rw[hU j,if_neg (by simp)]
         subst gf
         obtain⟨ba,bH⟩:=af.update (w':=w) ae (by cases k<;>first|rfl|simp[jm] at hw) ag rfl (λ_ _=>rfl) rfl rfl rfl (af.rel b _ i ae ag)
         exact⟨w,by simp[_root_.Go.storeCells],ba,bH⟩
       · obtain⟨s1,s2⟩:=bp b9
         obtain⟨w',c',av,au,bm,cN,fE,h8,n0,nj,ra⟩:=Ef P i.a6 (i.base+off) us w 0 c el eK eL h1 (aM.u1 g_) (by omega)
          (by have:=KX hw aI (.inr s1);rw[hlen] at this;simpa using this)
         obtain⟨ba,bH⟩:=af.update (w':=w') (o':=.cells bC el k bB dV) ae (by cases k<;>first|rfl|simp[jm] at hw) ag cN bm fE h8 n0.1 (hdr:=Nat.le_of_eq n0.2.symm)
          ⟨c',eK,eL,au,λj v aG=>by
           rw[hU j] at aG
           rw[ra]
           by_cases aj:off<=j/\j<off+vs.length
           · rw[if_pos aj] at aG
             rw[if_pos (by omega)]
             have:i.base+j-(i.base+off+0)=j-off:=by omega
             rw[this];exact aM.get aG
           · rw[if_neg aj] at aG
             rw[if_neg (by omega)]
             exact aa j v aG,by omega,by
           cases k with
           |ro=>trivial
           |fz=>trivial
           |own=>obtain⟨bO,a2,a3⟩:=aI;exact⟨bO,by omega,a3⟩
           |aH=>obtain⟨bO,a2⟩:=aI;exact⟨by omega,a2⟩⟩
         exact⟨w',av,ba,bH⟩
     · cases h
   · cases h
 · cases h
theorem World.heap_alloc_new(w:World)(x:Obj):(w.alloc x).heap[w.heap.size]? =some x:=by unfold World.alloc;simp
theorem xQ{P:Program}{μ:bd}{H:J}{w:World}(af:bg μ H w){el b:Nat}{cs:List I}{us:List Value}{aD:J}(aM:bL μ cs us)(h:newRow H el cs=some (b,aD)):
  (_root_.Go.newRow el ⟨us⟩).run P w=.ok ⟨w.heap.size,0,none⟩ (w.alloc (.cells ⟨us⟩ el))/\b=H.n/\fC μ H.n ⟨w.heap.size,0,us.length⟩ b=some ⟨w.heap.size,0,us.length⟩/\
   bg (fC μ H.n ⟨w.heap.size,0,us.length⟩) aD (w.alloc (.cells ⟨us⟩ el))/\bN μ H w (fC μ H.n ⟨w.heap.size,0,us.length⟩) aD (w.alloc (.cells ⟨us⟩ el)):=by
 unfold newRow at h
 split at h
 · cases h
   have hle:=af.ng ⟨w.heap.size,0,us.length⟩
   obtain⟨ba,bH⟩:=af.alloc (.cells cs el .own 0 0) (.cells ⟨us⟩ el) us.length
    ⟨⟨us⟩,0,0,by exact World.heap_alloc_new _ _,λj v aG=>by
      obtain⟨u,hu,aj⟩:=aM.get aG
      exact⟨u,by simpa using hu,aj.mono hle⟩,by simp,rfl,aM.length.symm,rfl,rfl⟩
   exact⟨by simp[_root_.Go.newRow],rfl,fD _ _ _,ba,bH⟩
 · cases h
section types
variable {P:Program} {w:World} {t:TypeId}
theorem run_typeInfo{i:TypeInfo}(h:P.info? t=some i):(typeInfo t).run P w=.ok i w:=by simp[typeInfo,h]
theorem bD{d:TypeDesc}(h:P.underlying t=some d):(underlying t).run P w=.ok d w:=by simp[underlying,h]
theorem run_sizeOf{n:Nat}(h:cQ P t=some n):(_root_.Go.sizeOf t).run P w=Result.ok n w:=by
 unfold cQ at h
 split at h
 · rename_i i ag;cases h;simp[_root_.Go.sizeOf,run_typeInfo ag]
 · cases h
theorem rb{b:Bool}(h:jX P t=some b):(isAgg t).run P w=.ok b w:=by
 unfold jX at h
 cases hu:P.underlying t with
 |none=>rw[hu] at h;cases h
 |some d=>
  rw[hu] at h
  simp only[isAgg,Sem.run_bind,bD hu,Result.andThen_ok]
  cases d<;>cases h<;>rfl
theorem kZ{z:I}(h:ek P t=some z):∃v,(zeroValue t).run P w=.ok v w/\z=mT v/\z≠ .bad:=by
 unfold ek at h
 split at h
 · rename_i i ag
   split at h
   · rename_i v aM
     split at h
     · cases h
     · rename_i a b9
       cases h
       exact⟨v,by simp[zeroValue,run_typeInfo ag,aM],rfl,b9⟩
   · cases h
 · cases h
end types
end aS
namespace aS
open Go
def ep(P:Program)(μ:bd)(H:J)(w:World)(s:Sem Value)(v:I)(aD:J):Prop:=
 ∃aL w' v',s.run P w=.ok v' w'/\a1 aL v v'/\bg aL aD w'/\bN μ H w aL aD w'
theorem ep.same{P:Program}{μ:bd}{H:J}{w:World}{s:Sem Value}{v:I}{v':Value}(af:bg μ H w)(ad:s.run P w=.ok v' w)(aM:a1 μ v v'):ep P μ H w s v H:=
 ⟨μ,w,v',ad,aM,af,bN.refl _ _ _⟩
section
variable {P:Program} {μ:bd} {H:J} {w:World}
theorem KY(af:bg μ H w){e:TypeId}{z:I}(aW:ek P e=some z){b:Nat}{aD:J}(aj:newRow H e z.cells=some (b,aD)):
  ep P μ H w (Instr.alloc e true (.tuple #[])) (.ptr b 0) aD:=by
 obtain⟨v,aM,rfl,ae⟩:=kZ (w:=w) aW
 have ab:=(jq μ v).cells ae
 obtain⟨h1,rfl,aa,ao,aI⟩:=xQ (P:=P) af ab aj
 refine⟨_,_,.pointer (some ⟨w.heap.size,0,none⟩),?_,⟨_,aa,by simp⟩,ao,aI⟩
 simp[Instr.alloc,aM,newVar,h1]
theorem KZ(af:bg μ H w){e:TypeId}{x:I}{v:Value}(aM:a1 μ x v){b:Nat}{aD:J}(aj:newRow H e x.cells=some (b,aD)):
  ep P μ H w (Instr.box e v) (.ptr b 0) aD:=by
 have ae:x≠ .bad:=by intro h;rw[h] at aj;simp[newRow,I.cells,I.ca] at aj
 obtain⟨h1,rfl,aa,ao,aI⟩:=xQ (P:=P) af (aM.cells ae) aj
 refine⟨_,_,.pointer (some ⟨w.heap.size,0,none⟩),?_,⟨_,aa,by simp⟩,ao,aI⟩
 simp[Instr.box,newVar,h1]
theorem K0(af:bg μ H w){t:TypeId}{b off:Nat}{v:Value}(aM:a1 μ (.ptr b off) v):
  (∀n cs,jX P t=some true->cQ P t=some n->loadCells H b off n=some cs->ep P μ H w (Instr.loadAt t v) (.agg cs) H)/\
  (∀x,jX P t=some false->aO H b off=some x->ep P μ H w (Instr.loadAt t v) x H):=by
 obtain⟨i,ag,rfl⟩:=aM
 constructor
 · intro n cs aJ aC ar
   obtain⟨us,h1,aa⟩:=pS (P:=P) af ag ar
   exact .same af (v':=.agg ⟨us⟩) (by simp[Instr.loadAt,Instr.sureAddr,loadVar,rb aJ,run_sizeOf aC,h1]) ⟨us,rfl,aa⟩
 · intro x aJ ar
   obtain⟨u,h1,aa⟩:=Aw (P:=P) af ag ar
   exact .same af (v':=u) (by simp only[Instr.loadAt,Instr.sureAddr,loadVar,Sem.run_bind,Sem.run_pure,Result.andThen_ok,rb aJ,Bool.false_eq_true,if_false,h1]) aa
theorem K1(af:bg μ H w){t:TypeId}{b off n:Nat}{v u:Value}{x:I}(aM:a1 μ (.ptr b off) v)(U:a1 μ x u)(ae:x≠ .bad)(aC:cQ P t=some n)(ar:x.cells.length=n)
  {aD:J}(ad:storeCells H b off x.cells=some aD):
  ∃w',(Instr.storeAt t v u).run P w=.ok () w'/\bg μ aD w'/\bN μ H w μ aD w':=by
 obtain⟨i,ag,rfl⟩:=aM
 have ab:=U.cells ae
 obtain⟨w',h1,aa,ao⟩:=u6 (P:=P) af ag ab ad
 refine⟨w',?_,aa,ao⟩
 have bp:u.cells.size=n:=by have:=ab.length;rw[ar] at this;simpa using this.symm
 simp[Instr.storeAt,Instr.sureAddr,storeVar,run_sizeOf aC,bp,h1]
theorem Eg(off:Nat):∀(l:List Value) (s:Nat) (cs:Array Value),off+s+l.length<=cs.size->
  ((l.zipIdx s).foldl (λcs (x:Value×Nat)=>cs.setIfInBounds (off+x.2) x.1) cs).size=cs.size/\
  ∀j:Nat,((l.zipIdx s).foldl (λcs (x:Value×Nat)=>cs.setIfInBounds (off+x.2) x.1) cs)[j]? =if off+s<=j/\j<off+s+l.length then l[j-(off+s)]? else cs[j]?
 |[],s,cs,_=>by
  refine⟨rfl,λj=>by rw[if_neg (by simp)];rfl⟩
 |a::l,s,cs,h=>by
  simp only[List.length_cons] at h
  obtain⟨h1,aa⟩:=Eg off l (s+1) (cs.setIfInBounds (off+s) a) (by simp;omega)
  simp only[List.zipIdx_cons,List.foldl_cons]
  refine⟨by rw[h1];simp,λj=>?_⟩
  rw[aa j]
  by_cases e:j=off+s
  · subst e
    rw[if_neg (by omega),if_pos (by simp),Array.getElem?_setIfInBounds]
    simp;omega
  · by_cases au:off+(s+1)<=j/\j<off+(s+1)+l.length
    · rw[if_pos au,if_pos (by simp only[List.length_cons];omega)]
      have:j-(off+s)=(j-(off+(s+1)))+1:=by omega
      rw[this];simp
    · rw[if_neg au,if_neg (by simp only[List.length_cons];omega),Array.getElem?_setIfInBounds,if_neg (λcw=>e cw.symm)]
theorem u7(place:Nat->Option (Nat×Nat)){q8:Type}(g:q8->I)(ρ:q8->Value)(an:∀x,a1 μ (g x) (ρ x)):∀(ps:List (Nat×q8)) (cs r:List I) (c:Array Value),bL μ cs c.toList->
  iU place cs (ps.map λp=>(p.1,g p.2))=some r->∃c':List Value,Instr.fill place c (ps.map λp=>(p.1,ρ p.2))=some ⟨c'⟩/\bL μ r c'
 |[],cs,r,c,ab,h=>by
  simp[iU] at h;subst h
  exact⟨c.toList,by simp[Instr.fill],ab⟩
 |(k,x)::ps,cs,r,c,ab,h=>by
  simp only[List.map_cons] at h⊢
  have aM:=an x
  generalize g x=v at h aM
  generalize ρ x=u at aM⊢
  have ae:v≠ .bad:=by intro e;subst e;simp[iU] at h
  have k0:∃off size bC,place k=some (off,size)/\v.cells.length=size/\off+size<=cs.length/\putCells off v.cells cs=some bC/\iU place bC (ps.map λp=>(p.1,g p.2))=some r:=by
   cases v<;>first
    |exact absurd rfl ae
    |(simp only[iU] at h
      split at h
      · cases h
      · rename_i off size mn
        split at h
        · rename_i bp
          simp only[Bool.and_eq_true,Nat.ble_eq] at bp
          split at h
          · rename_i bC u9
            exact⟨off,size,bC,mn,Nat.eq_of_beq_eq_true bp.1,bp.2,u9,h⟩
          · cases h
        · cases h)
  obtain⟨off,size,bC,mn,bp,hbound,u9,j2⟩:=k0
  obtain⟨dH,ea,g_,hU⟩:=xO _ _ _ _ u9
  have k1:=aM.cells ae
  have ar:=k1.length
  have pU:=ab.length
  have ao:c.toList.length=c.size:=by simp
  have K2:u.cells.size=size:=by rw[<-bp,ar];simp
  obtain⟨f1,f2⟩:=Eg off u.cells.toList 0 c (by simp;omega)
  have K3:(u.cells.zipIdx.foldl (λcs (x:Value×Nat)=>cs.setIfInBounds (off+x.2) x.1) c)=((u.cells.toList.zipIdx 0).foldl (λcs (x:Value×Nat)=>cs.setIfInBounds (off+x.2) x.1) c):=by
   rw[<-Array.foldl_toList,Array.toList_zipIdx]
  have key:bL μ bC (u.cells.zipIdx.foldl (λcs (x:Value×Nat)=>cs.setIfInBounds (off+x.2) x.1) c).toList:=by
   rw[K3]
   refine bL.tb (by rw[dH,pU];simpa using f1.symm) λj a aJ=>?_
   rw[hU j] at aJ
   rw[Array.getElem?_toList,f2 j]
   have K4:u.cells.toList.length=v.cells.length:=ar.symm
   by_cases aj:off<=j/\j<off+v.cells.length
   · rw[if_pos aj] at aJ;rw[if_pos (by omega)]
     exact k1.get (by simpa using aJ)
   · rw[if_neg aj] at aJ;rw[if_neg (by omega)]
     simpa using ab.get aJ
  obtain⟨c',g1,g2⟩:=u7 place g ρ an ps bC r _ key j2
  refine⟨c',?_,g2⟩
  simp only[Instr.fill,mn,K2]
  rw[if_neg (by simp;omega)]
  exact g1
theorem K5{t:TypeId}{n:Nat}(h:cQ P t=some n):P.cellsOf t=n:=by
 unfold cQ at h
 split at h
 · rename_i i ag;cases h;simp[Program.cellsOf,ag]
 · cases h
theorem run_places(w:World):∀l:List Field,(l.all λf=>(cQ P f.type).isSome)=true->
  (l.mapM (λf=>do pure (f.offset,<-_root_.Go.sizeOf f.type):Field->Sem (Nat×Nat))).run P w=.ok (l.map λf=>(f.offset,P.cellsOf f.type)) w
 |[],_=>rfl
 |f::l,h=>by
  simp only[List.all_cons,Bool.and_eq_true] at h
  obtain⟨n,aC⟩:=Option.isSome_iff_exists.1 h.1
  simp only[List.mapM_cons,Sem.run_bind,run_sizeOf aC,Result.andThen_ok,Sem.run_pure,run_places w l h.2,List.map_cons,K5 aC]
theorem K6(af:bg μ H w)(g:Operand->I)(ρ:Operand->Value)(an:∀x,a1 μ (g x) (ρ x)){t:TypeId}{z:I}(aW:ek P t=some z){ax:Array Field}(hu:P.underlying t=some (.struct ax))
  (dD:(ax.toList.all λf=>(cQ P f.type).isSome)=true)(parts:Array (Nat×Operand)){cs:List I}
  (hf:iU (λi=>(ax[i]?).map λf=>(f.offset,P.cellsOf f.type)) z.cells (parts.toList.map λp=>(p.1,g p.2))=some cs):
  ep P μ H w (Instr.build t (parts.map λ(i,x)=>(i,ρ x))) (.agg cs) H:=by
 obtain⟨v,aM,rfl,ae⟩:=kZ (w:=w) aW
 have ab:=(jq μ v).cells ae
 obtain⟨c',h1,aa⟩:=u7 _ g ρ an parts.toList _ cs v.cells ab hf
 have a8:=run_places (P:=P) w ax.toList dD
 refine .same af (v':=.agg ⟨c'⟩) ?_ ⟨c',rfl,aa⟩
 have hm:(ax.mapM (λf=>do pure (f.offset,<-_root_.Go.sizeOf f.type):Field->Sem (Nat×Nat))).run P w=.ok (ax.map λf=>(f.offset,P.cellsOf f.type)) w:=by
  obtain⟨l⟩:=ax
  have e:(l.toArray.mapM (λf=>do pure (f.offset,<-_root_.Go.sizeOf f.type):Field->Sem (Nat×Nat)))=List.toArray<$>l.mapM (λf=>do pure (f.offset,<-_root_.Go.sizeOf f.type)):=List.mapM_toArray
  refine(congrArg (λs:Sem (Array (Nat×Nat))=>s.run P w) e).trans ?_
  simp only[Sem.run_map]
  rw[show(Sem.run P (List.mapM (λf=>do pure (f.offset,<-_root_.Go.sizeOf f.type):Field->Sem (Nat×Nat)) l) w)=_ from a8];simp
 have K7:(λi:Nat=>(ax.map λf=>(f.offset,P.cellsOf f.type))[i]?)=λi=>(ax[i]?).map λf=>(f.offset,P.cellsOf f.type):=by
  funext i;simp
 simp only[Instr.build,Sem.run_bind,aM,Result.andThen_ok,bD hu,hm,K7,Array.toList_map,h1]
 rfl
theorem K8(af:bg μ H w)(g:Operand->I)(ρ:Operand->Value)(an:∀x,a1 μ (g x) (ρ x)){t e:TypeId}{n sz:Nat}{z:I}(aW:ek P t=some z)(hu:P.underlying t=some (.array n e))
  (ad:cQ P e=some sz)(parts:Array (Nat×Operand)){cs:List I}
  (hf:iU (λi=>some (i*sz,sz)) z.cells (parts.toList.map λp=>(p.1,g p.2))=some cs):
  ep P μ H w (Instr.build t (parts.map λ(i,x)=>(i,ρ x))) (.agg cs) H:=by
 obtain⟨v,aM,rfl,ae⟩:=kZ (w:=w) aW
 have ab:=(jq μ v).cells ae
 obtain⟨c',h1,aa⟩:=u7 _ g ρ an parts.toList _ cs v.cells ab hf
 refine .same af (v':=.agg ⟨c'⟩) ?_ ⟨c',rfl,aa⟩
 simp only[Instr.build,Sem.run_bind,aM,Result.andThen_ok,bD hu,run_sizeOf ad,Array.toList_map,h1]
 rfl
theorem Eh{α:Type}(n:Nat)(l:List α):(fN n l).length=n*l.length:=by
 induction n with
 |zero=>simp[fN]
 |succ n bc=>simp[fN,bc,Nat.succ_mul];omega
theorem Ei{α:Type}:∀(n:Nat) (l:List α) (j:Nat),j<n*l.length->(fN n l)[j]? =l[j %l.length]?
 |0,l,j,h=>by simp at h
 |n+1,l,j,h=>by
  simp only[fN]
  by_cases e:j<l.length
  · rw[List.getElem?_append_left e,Nat.mod_eq_of_lt e]
  · rw[List.getElem?_append_right (by omega),Ei n l (j-l.length) (by rw[Nat.succ_mul] at h;omega)]
    have:(j-l.length) %l.length=j %l.length:=by
     have af:j=(j-l.length)+l.length:=by omega
     conv=>rhs;rw[af,Nat.add_mod_right]
    rw[this]
theorem u_{mo:List I}{zero:Array Value}(aW:bL μ mo zero.toList){sz:Nat}(ad:mo.length=sz)(n:Nat):
  bL μ (fN n mo) ((Array.range (n*sz)).map (λi=>zero[i %zero.size]!)).toList:=by
 have ar:=aW.length
 have ao:zero.toList.length=zero.size:=by simp
 refine bL.tb (by rw[Eh,ad];simp) λj a aJ=>?_
 have aG:j<n*mo.length:=by
  rcases Nat.lt_or_ge j (n*mo.length) with h|h
  · exact h
  · rw[List.getElem?_eq_none (by rw[Eh];exact h)] at aJ;cases aJ
 rw[Ei n mo j aG] at aJ
 obtain⟨u,hu,aj⟩:=aW.get aJ
 refine⟨u,?_,aj⟩
 have ni:0<mo.length:=by
  rcases Nat.eq_zero_or_pos mo.length with h|h
  · rw[h] at aG;simp at aG
  · exact h
 have bx:j %zero.size<zero.size:=Nat.mod_lt _ (by omega)
 have av:mo.length=zero.size:=by omega
 rw[av] at hu
 rw[Array.getElem?_toList] at hu
 rw[Array.getElem?_toList,Array.getElem?_map,Array.getElem?_range]
 rw[if_pos (by rw[<-ad];exact aG)]
 simp only[Option.map_some]
 rw[Array.getElem?_eq_getElem bx] at hu
 simp only[Option.some.injEq] at hu
 rw[getElem!_pos zero _ bx,hu]
theorem K9(af:bg μ H w)(g:Operand->I)(ρ:Operand->Value)(an:∀x,a1 μ (g x) (ρ x)){t e:TypeId}{len sz:Nat}{z:I}(hu:P.underlying t=some (.slice e))(ad:cQ P e=some sz)
  (aW:ek P e=some z)(hle:len*sz<=16777216)(n1:z.cells.length=sz)(parts:Array (Nat×Operand)){cs:List I}
  (hf:iU (λi=>some (i*sz,sz)) (if len*sz=0 then[] else fN len z.cells) (parts.toList.map λp=>(p.1,g p.2))=some cs){b:Nat}{aD:J}(aj:newRow H e cs=some (b,aD)):
  ep P μ H w (Instr.buildSlice t len (parts.map λ(i,x)=>(i,ρ x))) (.slice b 0 len (.exact len)) aD:=by
 obtain⟨v,aM,rfl,ae⟩:=kZ (w:=w) aW
 have ab:=(jq μ v).cells ae
 have va:¬(len*sz>2^24):=by omega
 have key:∀zero:Array Value,bL μ (if len*sz=0 then[] else fN len (mT v).cells) ((Array.range (len*sz)).map (λi=>zero[i %zero.size]!)).toList->
   (∀r:Result Value,r=(match Instr.fill (λi=>some (i*sz,sz)) ((Array.range (len*sz)).map (λi=>zero[i %zero.size]!)) (parts.toList.map λp=>(p.1,ρ p.2)) with
    |some cells=>do pure (.slice (some (<-_root_.Go.newRow e cells)) len len)
    |none=>stuck "buildSlice: a part of the wrong size" :Sem Value).run P w->(Instr.buildSlice t len (parts.map λ(i,x)=>(i,ρ x))).run P w=r)->
   ep P μ H w (Instr.buildSlice t len (parts.map λ(i,x)=>(i,ρ x))) (.slice b 0 len (.exact len)) aD:=by
  intro zero nk de
  obtain⟨c',h1,aa⟩:=u7 _ g ρ an parts.toList _ cs _ nk hf
  obtain⟨aE,rfl,a_,bZ,cG⟩:=xQ (P:=P) af aa aj
  refine⟨_,_,.slice (some ⟨w.heap.size,0,none⟩) len len,?_,⟨_,a_,by simp[Aq]⟩,bZ,cG⟩
  refine de _ ?_
  rw[h1]
  simp[aE]
 by_cases aA:len*sz=0
 · refine key #[] (by rw[if_pos aA,aA];simp[bL]) λr aj=>?_
   rw[aj]
   simp only[Instr.buildSlice,Sem.run_bind,bD hu,Result.andThen_ok,run_sizeOf ad,if_neg va,if_pos aA,Sem.run_pure,Array.toList_map]
   generalize Instr.fill _ _ _=F
   cases F<;>rfl
 · refine key v.cells (by rw[if_neg aA];exact u_ ab n1 len) λr aj=>?_
   rw[aj]
   simp only[Instr.buildSlice,Sem.run_bind,bD hu,Result.andThen_ok,run_sizeOf ad,if_neg va,if_neg aA,Sem.run_pure,Array.toList_map,aM]
   generalize Instr.fill _ _ _=F
   cases F<;>rfl
end
end aS
namespace aS
open Go
theorem n2(n:Nat)(h:n<9223372036854775808):IntKind.wrap .i64 (n:Int)=(n:Int):=by
 have e:((n:Int) %18446744073709551616)=n:=by omega
 have au:(2:Int)^64=18446744073709551616:=by rfl
 have bm:(2:Int)^63=9223372036854775808:=by rfl
 simp only[IntKind.wrap,IntKind.bits,IntKind.signed,au,bm,e,Bool.true_and,decide_eq_true_eq,Nat.add_one_sub_one]
 rw[if_neg (by show¬((2:Int)^63<=n);rw[bm];omega)]
section
variable {P:Program} {μ:bd} {H:J} {w:World}
theorem K_(af:bg μ H w){t e:TypeId}{l c:Nat}{i:TypeInfo}{z:I}{kl kc:IntKind}(hu:P.underlying t=some (.slice e))(ag:P.info? e=some i)(aW:ek P e=some z)(pU:l<=c)
  (tf:c*(i.bytes+1)<=1099511627776)(n1:z.cells.length=i.size){b:Nat}{aD:J}(aj:newRow H e (if c*i.size=0 then[] else fN c z.cells)=some (b,aD)):
  ep P μ H w (Instr.makeSlice t (.int kl l) (.int kc c)) (.slice b 0 l (.exact c)) aD:=by
 obtain⟨v,aM,rfl,ae⟩:=kZ (w:=w) aW
 have ab:=(jq μ v).cells ae
 have pV:c<=1099511627776:=Nat.le_trans (Nat.le_mul_of_pos_right c (by omega)) tf
 have j3:i.bytes*c<=1099511627776:=by
  have:c*i.bytes<=c*(i.bytes+1):=Nat.mul_le_mul_left c (by omega)
  rw[Nat.mul_comm];omega
 have vb:∀n:Nat,n<=1099511627776->IntKind.wrap .i64 (n:Int)=(n:Int):=λn aC=>n2 n (by omega)
 have vc:=vb l (by omega)
 have vd:=vb c pV
 have re:¬((c:Int)<0||(i.bytes:Int)*(c:Int)>2^48||(l:Int)<0||(l:Int)>(c:Int))=true:=by
  have h1:((i.bytes:Int)*(c:Int))<=1099511627776:=by
   have aA:((i.bytes*c:Nat):Int)<=1099511627776:=by omega
   rw[Int.natCast_mul] at aA;exact aA
  have aa:(2:Int)^48=281474976710656:=by rfl
  generalize (i.bytes:Int)*(c:Int)=q at h1⊢
  rw[aa]
  simp only[Bool.or_eq_true,decide_eq_true_eq]
  omega
 have key:∀zero:Array Value,bL μ (if c*i.size=0 then[] else fN c (mT v).cells) ((Array.range (c*i.size)).map (λj=>zero[j %zero.size]!)).toList->
   (Instr.makeSlice t (.int kl l) (.int kc c)).run P w=(do let a<-_root_.Go.newRow e ((Array.range (c*i.size)).map (λj=>zero[j %zero.size]!));pure (.slice (some a) l c):Sem Value).run P w->
   ep P μ H w (Instr.makeSlice t (.int kl l) (.int kc c)) (.slice b 0 l (.exact c)) aD:=by
  intro zero nk de
  obtain⟨aE,rfl,a_,bZ,cG⟩:=xQ (P:=P) af nk aj
  refine⟨_,_,.slice (some ⟨w.heap.size,0,none⟩) l c,?_,⟨_,a_,by simp[Aq]⟩,bZ,cG⟩
  rw[de]
  simp only[Sem.run_bind,Sem.run_pure]
  have:(⟨((Array.range (c*i.size)).map (λj=>zero[j %zero.size]!)).toList⟩:Array Value)=((Array.range (c*i.size)).map (λj=>zero[j %zero.size]!)):=rfl
  rw[this] at aE
  rw[aE];rfl
 have bp:(_root_.Go.sizeOf e).run P w=.ok i.size w:=by simp[_root_.Go.sizeOf,run_typeInfo ag]
 by_cases aA:c*i.size=0
 · refine key #[] (by rw[if_pos aA,aA];simp[bL]) ?_
   simp only[Instr.makeSlice,Sem.run_bind,bD hu,Result.andThen_ok,asInt,asIntOf,Sem.run_pure,run_typeInfo ag,vc,vd]
   rw[if_neg re]
   simp[bp,aA]
 · refine key v.cells (by rw[if_neg aA];exact u_ ab n1 c) ?_
   simp only[Instr.makeSlice,Sem.run_bind,bD hu,Result.andThen_ok,asInt,asIntOf,Sem.run_pure,run_typeInfo ag,vc,vd]
   rw[if_neg re]
   simp[bp,aA,aM]
theorem La{x:I}{v:Value}(aM:a1 μ x v)(U:(∃b o,x=.ptr b o)\/(∃b o n c,x=.slice b o n c)\/(∃f a b,x=.fn f a b)\/∃t y,x=.iface t y):
  ∀(o:Oper) (op:Operand) (ρ:Operand->Value),ρ op=v->o.op=.nilCheck op->(execOp ρ o).run P w=.ok (.value v) w:=by
 intro o op ρ Lb aQ
 simp only[execOp,aQ,Lb]
 rcases U with⟨b,o',rfl⟩|⟨b,o',n,c,rfl⟩|⟨f,a,b,rfl⟩|⟨t,y,rfl⟩
 · obtain⟨i,_,rfl⟩:=aM;rfl
 · obtain⟨i,_,ab⟩:=aM
   cases c with
   |exact c=>cases ab;rfl
   |aH fx=>obtain⟨c,rfl,_⟩:=ab;rfl
   |dead=>obtain⟨_,a,c,rfl⟩:=ab;rfl
 · obtain⟨ax,cs,rfl,_,_⟩:=aM;rfl
 · obtain⟨Lc,rfl,_⟩:=aM;rfl
theorem Ld(op:BinOp)(t:TypeId)(k:IntKind)(x y:Int)(dW:op≠ .shl/\op≠ .shr):binOp op t (.int k x) (.int k y)=match op with
  |.add|.sub|.mul=>Op.intArith op k x y
  |.quo|.rem=>Op.intDiv op k x y
  |.and|.or|.xor|.andNot=>Op.intBits op k x y
  |_=>Op.intCmp op x y:=by
 cases op<;>first
  |(exact absurd rfl dW.1)
  |(exact absurd rfl dW.2)
  |simp[binOp]
theorem Le{op:BinOp}{k:IntKind}{x y:Int}{v:I}(h:arith op k x y=some v)(dW:op≠ .shl/\op≠ .shr)(t:TypeId):
  ∃u,(binOp op t (.int k x) (.int k y)).run P w=.ok u w/\a1 μ v u:=by
 rw[Ld op t k x y dW]
 cases op<;>simp only[arith] at h
 case shl=>cases h
 case shr=>cases h
 case quo=>
  split at h
  · cases h
  · rename_i aP;cases h;exact⟨_,by simp only[Op.intDiv,if_neg aP];rfl,rfl⟩
 case rem=>
  split at h
  · cases h
  · rename_i aP;cases h;exact⟨_,by simp only[Op.intDiv,if_neg aP];rfl,rfl⟩
 all_goals (cases h;exact⟨_,rfl,rfl⟩)
theorem Ej{op:BinOp}{k gA:IntKind}{x y:Int}{v:I}(h:uQ op k x y=some v)(t:TypeId):
  ∃u,(binOp op t (.int k x) (.int gA y)).run P w=.ok u w/\a1 μ v u:=by
 unfold uQ at h
 split at h
 · cases h
 · rename_i aP
   cases op<;>simp only[] at h<;>first
    |(cases h;done)
    |(cases h;exact⟨_,by simp[binOp,Op.shift,aP],rfl⟩)
theorem Ek(b:ByteArray):∀(n i:Nat) (r:List UInt8),b.size-i=n->ByteArray.toList.loop b i r=r.reverse++b.data.toList.drop i
 |0,i,r,h=>by
  rw[ByteArray.toList.loop]
  have ad:b.data.toList.length=b.size:=Array.length_toList
  rw[if_neg (by omega),List.drop_eq_nil_of_le (by omega)];simp
 |n+1,i,r,h=>by
  rw[ByteArray.toList.loop]
  have ad:b.data.toList.length=b.size:=Array.length_toList
  rw[if_pos (by omega),Ek b n (i+1) _ (by omega)]
  rw[List.drop_eq_getElem_cons (i:=i) (by omega)]
  have:b.get! i=b.data.toList[i]'(by omega):=by
   have aa:i<b.data.size:=by have:=Array.length_toList (xs:=b.data);omega
   show b.data[i]! =_
   rw[getElem!_pos b.data i aa];simp
  simp[this]
theorem pW(s:ByteArray):s.toList=s.data.toList:=by
 unfold ByteArray.toList
 rw[Ek s _ 0 [] rfl];simp
theorem ha:∀a b:List UInt8,cr a b=(a==b)
 |[],[]=>rfl
 |[],_::_=>rfl
 |_::_,[]=>rfl
 |a::x,b::y=>by
  have bc:=ha x y
  simp only[cr,List.cons_beq_cons]
  cases e:Nat.beq a.toNat b.toNat with
  |true=>
   have:a=b:=UInt8.toNat_inj.1 (Nat.eq_of_beq_eq_true e)
   subst this;simp[bc]
  |false=>
   have:(a==b)=false:=by
    rw[beq_eq_false_iff_ne];intro h;subst h;simp at e
   simp[this]
theorem Ay:∀a b:List UInt8,c7 a b=Op.bytesLess a b
 |[],[]=>rfl
 |[],_::_=>rfl
 |_::_,[]=>rfl
 |a::x,b::y=>by
  have bc:=Ay x y
  simp only[c7,Op.bytesLess]
  cases e:Nat.beq a.toNat b.toNat with
  |true=>
   have:a=b:=UInt8.toNat_inj.1 (Nat.eq_of_beq_eq_true e)
   subst this;simp[bc]
  |false=>
   have h1:(a==b)=false:=by
    rw[beq_eq_false_iff_ne];intro h;subst h;simp at e
   have aa:decide (a<b)=Nat.blt a.toNat b.toNat:=by
    rw[Bool.eq_iff_iff];simp[UInt8.lt_iff_toNat_lt]
   simp[h1,aa]
theorem El:∀a b:List UInt8,(Op.bytesLess a b||(a==b))=!Op.bytesLess b a
 |[],[]=>rfl
 |[],_::_=>rfl
 |_::_,[]=>rfl
 |a::x,b::y=>by
  have bc:=El x y
  simp only[Op.bytesLess,List.cons_beq_cons]
  by_cases h:a=b
  · subst h
    have:¬(a<a):=UInt8.lt_irrefl a
    simpa[this] using bc
  · have b9:(a==b)=false:=beq_eq_false_iff_ne.2 h
    have Lf:(b==a)=false:=beq_eq_false_iff_ne.2 (λe=>h e.symm)
    simp only[b9,Lf,Bool.false_and,Bool.or_false]
    rw[Bool.eq_iff_iff]
    simp only[decide_eq_true_eq,Bool.not_eq_true',decide_eq_false_iff_not,UInt8.lt_iff_toNat_lt]
    have:a.toNat≠b.toNat:=λe=>h (UInt8.toNat_inj.1 e)
    omega
theorem Lg{op:BinOp}{a b:ByteArray}{v:I}(h:oH op a.data.toList b.data.toList=some v)(t:TypeId):∃u,(binOp op t (.string a) (.string b)).run P w=.ok u w/\a1 μ v u:=by
 have aJ:=pW a
 have ae:=pW b
 have h1:=ha a.data.toList b.data.toList
 have aa:=Ay a.data.toList b.data.toList
 have ao:=Ay b.data.toList a.data.toList
 have bk:=El a.data.toList b.data.toList
 have ve:a.data.toList.length=a.size:=Array.length_toList
 have Lh:b.data.toList.length=b.size:=Array.length_toList
 cases op<;>simp only[oH] at h
 case add=>
  split at h
  · cases h
  · rename_i ar
    cases h
    refine⟨.string (a++b),?_,⟨a++b,rfl,by simp[ByteArray.data_append]⟩⟩
    rw[ve,Lh] at ar
    simp only[binOp,Op.stringOp]
    rw[if_neg ar];rfl
 case eql=>cases h;exact⟨_,rfl,congrArg Value.bool (by rw[aJ,ae,h1])⟩
 case neq=>cases h;exact⟨_,rfl,congrArg Value.bool (by rw[aJ,ae,h1])⟩
 case lss=>cases h;exact⟨_,rfl,congrArg Value.bool (by rw[aJ,ae,aa])⟩
 case leq=>cases h;exact⟨_,rfl,congrArg Value.bool (by rw[aJ,ae,ao];exact bk)⟩
 case gtr=>cases h;exact⟨_,rfl,congrArg Value.bool (by rw[aJ,ae,ao,bk,Bool.not_not])⟩
 case geq=>cases h;exact⟨_,rfl,congrArg Value.bool (by rw[aJ,ae,aa])⟩
 all_goals cases h
def mq(μ:bd):Option I->Option Value->Prop
 |none,none=>True
 |some a,some v=>a1 μ a v
 |_,_=>False
theorem mq.map(g:Operand->I)(ρ:Operand->Value)(an:∀x,a1 μ (g x) (ρ x))(o:Option Operand):mq μ (o.map g) (o.map ρ):=by
 cases o with
 |none=>trivial
 |some x=>exact an x
theorem Em{a:I}{n:Nat}(h:eT a=some n){v:Value}(aM:a1 μ a v):∃k,v=.int k (n:Int):=by
 unfold eT at h
 split at h
 · rename_i k m;cases h;exact⟨k,aM⟩
 · cases h
theorem Az{n y:Nat}{k:IntKind}(h:n<=y)(c:BoundsCode):(Instr.sliceBound (.int k (n:Int)) y c).run P w=.ok n w:=by
 simp only[Instr.sliceBound,asIntOf,Sem.run_bind,Sem.run_pure,Result.andThen_ok]
 rw[if_pos ⟨by omega,by omega⟩]
 simp
theorem En{d n:Nat}{o:Option I}{o':Option Value}(h:iz d o=some n)(aj:mq μ o o'):(o'=none/\n=d/\o=none)\/∃k a,o=some a/\o'=some (.int k (n:Int)):=by
 cases o with
 |none=>cases o' with
  |none=>simp[iz] at h;exact .inl ⟨rfl,h.symm,rfl⟩
  |some _=>exact aj.elim
 |some a=>cases o' with
  |none=>exact aj.elim
  |some v=>obtain⟨k,e⟩:=Em (μ:=μ) h aj;exact .inr ⟨k,a,rfl,by rw[e]⟩
theorem nm{len cap l h m:Nat}{bB ag mx:Option I}{tg dV mx':Option Value}(iD:mq μ bB tg)(jr:mq μ ag dV)(js:mq μ mx mx')
  (ae:bounds len cap bB ag mx=some (l,h,m))(b:Bool):(Instr.sliceBounds b len cap tg dV mx').run P w=.ok (l,h,m) w/\l<=h/\h<=m/\m<=cap/\(mx=none->m=cap):=by
 unfold bounds at ae
 cases em:iz cap mx with
 |none=>rw[em] at ae;cases ae
 |some m1=>
  rw[em] at ae
  simp only at ae
  cases hm:Nat.ble m1 cap with
  |false=>rw[hm] at ae;cases ae
  |true=>
   rw[hm] at ae
   simp only at ae
   have pX:=Nat.le_of_ble_eq_true hm
   split at ae
   · cases ae
   · rename_i af xR
     cases AA:Nat.ble af m1 with
     |false=>rw[AA] at ae;cases ae
     |true=>
      rw[AA] at ae
      simp only at ae
      have Eo:=Nat.le_of_ble_eq_true AA
      cases el:iz 0 bB with
      |none=>rw[el] at ae;cases ae
      |some dI=>
       rw[el] at ae
       simp only at ae
       cases ar:Nat.ble dI af with
       |false=>rw[ar] at ae;cases ae
       |true=>
        rw[ar] at ae
        simp only[Option.some.injEq,Prod.mk.injEq] at ae
        obtain⟨rfl,rfl,rfl⟩:=ae
        have pY:=Nat.le_of_ble_eq_true ar
        have AB:(dV=none/\mx'=none/\af=len)\/∃k,dV=some (.int k (af:Int)):=by
         cases ag with
         |none=>cases dV with
          |some _=>exact jr.elim
          |none=>cases mx with
           |some _=>simp at xR
           |none=>cases mx' with
            |some _=>exact js.elim
            |none=>simp at xR;exact .inl ⟨rfl,rfl,xR.symm⟩
         |some a=>cases dV with
          |none=>exact jr.elim
          |some v=>
           have gE:eT a=some af:=by cases mx<;>simpa using xR
           obtain⟨k,e⟩:=Em (μ:=μ) gE jr
           exact .inr ⟨k,by rw[e]⟩
        refine⟨?_,pY,Eo,pX,λe=>by rw[e] at em;simp[iz] at em;exact em.symm⟩
        rcases En em js with⟨av,au,_⟩|⟨bt,_,_,av⟩<;>rcases AB with⟨bm,cN,fE⟩|⟨bA,bm⟩<;>rcases En el iD with⟨h8,n0,_⟩|⟨eU,_,_,h8⟩<;>
         first
         |(exfalso;simp[av] at cN;done)
         |(subst_vars;simp[Instr.sliceBounds,Az pX,Az Eo,Az pY])
end
end aS
namespace aS
open Go
section
variable {P:Program} {μ:bd} {H:J} {w:World}
theorem Li(t:ByteArray)(l h:Nat)(af:h<=t.size):(t.extract l h).data.toList=List.take (h-l) (hQ l t.data.toList):=by
 rw[lL]
 simp only[ByteArray.data_extract,Array.toList_extract,List.extract_eq_take_drop]
theorem vf{m n:Nat}(h:m<=n):Nat.ble m n=true:=Nat.ble_eq_true_of_le h
theorem AD{len k c:Nat}{bB ag mx:Option I}{l h m:Nat}(ae:bounds len k bB ag mx=some (l,h,m))(hk:k<=c):bounds len c bB ag mx=some (l,h,if mx.isNone then c else m):=by
 have fin:∀(m1 m2:Nat) (E:Option Nat),m1<=m2->
   (match E with
   |none=>none
   |some af=>match Nat.ble af m1 with
    |false=>none
    |true=>match iz 0 bB with
     |none=>none
     |some l=>match Nat.ble l af with
      |false=>none
      |true=>some (l,af,m1))=some (l,h,m)->
   (match E with
   |none=>none
   |some af=>match Nat.ble af m2 with
    |false=>none
    |true=>match iz 0 bB with
     |none=>none
     |some l=>match Nat.ble l af with
      |false=>none
      |true=>some (l,af,m2))=some (l,h,m2):=by
  intro m1 m2 E hm dc
  cases E with
  |none=>cases dc
  |some af=>
   simp only at dc⊢
   cases h1:Nat.ble af m1 with
   |false=>rw[h1] at dc;cases dc
   |true=>
    rw[h1] at dc
    rw[vf (Nat.le_trans (Nat.le_of_ble_eq_true h1) hm)]
    simp only at dc⊢
    cases ar:iz 0 bB with
    |none=>rw[ar] at dc;cases dc
    |some dI=>
     rw[ar] at dc
     simp only at dc⊢
     cases aI:Nat.ble dI af with
     |false=>rw[aI] at dc;cases dc
     |true=>rw[aI] at dc;simp only[Option.some.injEq,Prod.mk.injEq] at dc⊢;exact⟨dc.1,dc.2.1,trivial⟩
 unfold bounds at ae⊢
 cases mx with
 |none=>
  have av:iz k none=some k:=rfl
  have au:iz c none=some c:=rfl
  rw[av] at ae;rw[au]
  simp only at ae⊢
  rw[vf (Nat.le_refl k)] at ae;rw[vf (Nat.le_refl c)]
  simp only[Option.isNone_none,if_true] at ae⊢
  cases ag with
  |none=>exact fin k c (some len) hk ae
  |some a=>exact fin k c (eT a) hk ae
 |some rf=>
  have av:iz k (some rf)=eT rf:=rfl
  have au:iz c (some rf)=eT rf:=rfl
  rw[av] at ae;rw[au]
  cases em:eT rf with
  |none=>rw[em] at ae;cases ae
  |some m1=>
   rw[em] at ae
   simp only at ae⊢
   cases h1:Nat.ble m1 k with
   |false=>rw[h1] at ae;cases ae
   |true=>
    rw[h1] at ae
    rw[vf (Nat.le_trans (Nat.le_of_ble_eq_true h1) hk)]
    simp only[Option.isNone_some,Bool.false_eq_true,if_false] at ae⊢
    have Lj:m1=m:=by
     cases ag<;>simp only at ae
     · cases ae
     · split at ae<;>try cases ae
       split at ae<;>try cases ae
       split at ae<;>try cases ae
       split at ae<;>first|cases ae;rfl|cases ae
    subst Lj
    cases ag<;>exact ae
theorem Lk(af:bg μ H w){t:TypeId}{x:I}{bo:Value}(U:a1 μ x bo){bB ag mx:Option I}{tg dV mx':Option Value}(iD:mq μ bB tg)(jr:mq μ ag dV)(js:mq μ mx mx'){v:I}
  (h:fV P H t x bB ag mx=some v):ep P μ H w (Instr.sliceAt t bo tg dV mx') v H:=by
 unfold fV at h
 split at h
 ·
  rename_i s hu
  obtain⟨bs,rfl,rfl⟩:=U
  cases mx with
  |some _=>cases h
  |none=>
   simp only at h
   cases mx' with
   |some _=>exact js.elim
   |none=>
    split at h
    · rename_i l ae m hV
      cases h
      have bp:bs.data.toList.length=bs.size:=Array.length_toList
      rw[bp] at hV
      obtain⟨ba,bH,dv,dm,_⟩:=nm (P:=P) (w:=w) iD jr (μ:=μ) (mx:=none) (mx':=none) trivial hV false
      refine .same af (v':=.string (bs.extract l ae)) ?_ ⟨_,rfl,Li _ _ _ (by omega)⟩
      simp[Instr.sliceAt,Instr.slice,bD hu,ba]
    · cases h
 ·
  rename_i e hu
  cases U
  split at h
  · rename_i sz r ad hV
    cases h
    obtain⟨l,ae,m⟩:=r
    obtain⟨ba,bH,dv,dm,_⟩:=nm (P:=P) (w:=w) iD jr js hV true
    have:m=0/\l=0/\ae=0:=by omega
    obtain⟨rfl,rfl,rfl⟩:=this
    exact .same af (v':=.slice none 0 0) (by simp[Instr.sliceAt,Instr.slice,bD hu,ba,run_sizeOf ad]) rfl
  · cases h
 ·
  rename_i e b off len cap hu
  obtain⟨i,mr,ab⟩:=U
  cases ab
  split at h
  · rename_i sz l ae m ad hV
    cases h
    obtain⟨ba,bH,dv,dm,_⟩:=nm (P:=P) (w:=w) iD jr js hV true
    refine .same af (v':=.slice (some ⟨i.a6,i.base+(if m=l then off else off+l*sz),none⟩) (ae-l) (m-l)) ?_ ⟨i,mr,rfl⟩
    by_cases e:m=l
    · simp[Instr.sliceAt,Instr.slice,bD hu,ba,run_sizeOf ad,e]
    · simp[Instr.sliceAt,Instr.slice,bD hu,ba,run_sizeOf ad,e,add_plain,Nat.add_assoc]
  · cases h
 ·
  rename_i e b off len fx hu
  obtain⟨i,mr,c,rfl,pU,bp⟩:=U
  split at h
  · rename_i sz ad
    split at h
    · rename_i Ll
      subst Ll
      cases mx with
      |none=>
       cases mx' with
       |some _=>exact js.elim
       |none=>
        simp only at h
        split at h
        · rename_i l ae m hV
          have vg:bounds len c bB ag none=some (l,ae,c):=AD hV pU
          obtain⟨ba,bH,dv,dm,_⟩:=nm (P:=P) (w:=w) iD jr (μ:=μ) (mx:=none) (mx':=none) trivial vg true
          obtain⟨_,bb,bP,gP,_⟩:=nm (P:=P) (w:=w) iD jr (μ:=μ) (mx:=none) (mx':=none) trivial hV true
          have de:(Instr.sliceAt t (.slice (some ⟨i.a6,i.base+off,none⟩) len c) tg dV none).run P w=.ok (.slice (some (if c=l then⟨i.a6,i.base+off,none⟩ else⟨i.a6,i.base+off+l*sz,none⟩)) (ae-l) (c-l)) w:=by
           by_cases e:c=l
           · subst e;simp[Instr.sliceAt,Instr.slice,bD hu,ba,run_sizeOf ad]
           · simp[Instr.sliceAt,Instr.slice,bD hu,ba,run_sizeOf ad,e,add_plain]
          split at h
          · rename_i xS
            subst xS
            cases h
            refine .same af de ⟨i,mr,c,?_,by omega,bp⟩
            by_cases e:c=0
            · simp[e]
            · simp[e]
          · rename_i xS
            split at h
            · rename_i bx
              cases h
              simp only[Nat.blt_eq] at bx
              refine .same af de ⟨i,mr,c-l,?_,by omega,?_⟩
              · rw[if_neg (by omega)];simp[Nat.add_assoc]
              · have:c*sz=l*sz+(c-l)*sz:=by rw[<-Nat.add_mul];congr 1;omega
                omega
            · rename_i bx
              cases h
              have AE:¬l<len:=by simpa[Nat.blt_eq] using bx
              have aA:ae-l=0:=by omega
              rw[aA] at de
              exact .same af de ⟨i,mr,rfl,_,c-l,rfl⟩
        · cases h
      |some rf=>
       simp only at h
       split at h
       · rename_i l ae m hV
         cases h
         obtain⟨_,bb,bP,gP,_⟩:=nm (P:=P) (w:=w) iD jr js hV true
         have vg:bounds len c bB ag (some rf)=some (l,ae,m):=AD hV pU
         obtain⟨ba,bH,dv,dm,_⟩:=nm (P:=P) (w:=w) iD jr js vg true
         refine .same af (v':=.slice (some ⟨i.a6,i.base+(if m=l then off else off+l*sz),none⟩) (ae-l) (m-l)) ?_ ⟨i,mr,rfl⟩
         by_cases e:m=l
         · simp[Instr.sliceAt,Instr.slice,bD hu,ba,run_sizeOf ad,e]
         · simp[Instr.sliceAt,Instr.slice,bD hu,ba,run_sizeOf ad,e,add_plain,Nat.add_assoc]
       · cases h
    · cases h
  · cases h
 ·
  rename_i e b off len hu
  obtain⟨i,mr,rfl,a,c,rfl⟩:=U
  split at h
  · rename_i sz r ad hV
    cases h
    obtain⟨l,ae,m⟩:=r
    obtain⟨_,bb,bP,gP,k2⟩:=nm (P:=P) (w:=w) iD jr js hV true
    have:m=0/\l=0/\ae=0:=by omega
    obtain⟨rfl,rfl,rfl⟩:=this
    have vg:bounds 0 c bB ag mx=some (0,0,(if mx.isNone then c else 0)):=AD hV (Nat.zero_le _)
    obtain⟨ba,bH,dv,dm,_⟩:=nm (P:=P) (w:=w) iD jr js vg true
    refine .same af (v':=.slice (some a) 0 ((if mx.isNone then c else 0)-0)) ?_ ⟨i,mr,rfl,a,_,rfl⟩
    have aJ:a.add (0*sz)=a:=by simp[Addr.add]
    simp[Instr.sliceAt,Instr.slice,bD hu,ba,run_sizeOf ad,Addr.add]
  · cases h
 ·
  rename_i n e b off hu
  obtain⟨i,mr,rfl⟩:=U
  split at h
  · rename_i sz l ae m ad hV
    cases h
    obtain⟨ba,bH,dv,dm,_⟩:=nm (P:=P) (w:=w) iD jr js hV false
    refine .same af (v':=.slice (some ⟨i.a6,i.base+(if m=l then off else off+l*sz),none⟩) (ae-l) (m-l)) ?_ ⟨i,mr,rfl⟩
    by_cases e:m=l
    · simp[Instr.sliceAt,Instr.sureAddr,bD hu,ba,run_sizeOf ad,e]
    · simp[Instr.sliceAt,Instr.sureAddr,bD hu,ba,run_sizeOf ad,e,add_plain,Nat.add_assoc]
  · cases h
 ·
  rename_i arr b off hu
  obtain⟨i,mr,rfl⟩:=U
  split at h
  · rename_i n e pZ
    split at h
    · rename_i sz l ae m ad hV
      cases h
      obtain⟨ba,bH,dv,dm,_⟩:=nm (P:=P) (w:=w) iD jr js hV false
      refine .same af (v':=.slice (some ⟨i.a6,i.base+(if m=l then off else off+l*sz),none⟩) (ae-l) (m-l)) ?_ ⟨i,mr,rfl⟩
      by_cases e:m=l
      · simp[Instr.sliceAt,Instr.slice,asAddr,bD hu,bD pZ,ba,run_sizeOf ad,e]
      · simp[Instr.sliceAt,Instr.slice,asAddr,bD hu,bD pZ,ba,run_sizeOf ad,e,add_plain,Nat.add_assoc]
    · cases h
  · cases h
 · cases h
theorem p0{t:TypeId}{off:Nat}{cs:List I}{l:List Value}(ar:bL μ cs l){v:I}(h:lE P t cs off=some v):∃u,(part t ⟨l⟩ off).run P w=.ok u w/\a1 μ v u:=by
 unfold lE at h
 split at h
 · rename_i n aJ aC
   split at h
   · rename_i r aj
     cases h
     rw[lL] at aj
     obtain⟨h1,rfl⟩:=q9 _ _ _ aj
     refine⟨.agg ⟨(l.drop off).take n⟩,?_,⟨_,rfl,?_⟩⟩
     · simp[part,rb aJ,run_sizeOf aC,List.extract_eq_take_drop]
     · refine bL.tb (by have:=ar.length;simp[this]) λj a aG=>?_
       rw[List.getElem?_take] at aG⊢
       split at aG
       · rename_i Lm
         rw[if_pos Lm]
         rw[List.getElem?_drop] at aG⊢
         exact ar.get aG
       · cases aG
   · cases h
 · rename_i _ aJ
   rw[ks] at h
   obtain⟨u,hu,aj⟩:=ar.get h
   refine⟨u,?_,aj⟩
   simp[part,rb aJ,hu]
 · cases h
theorem Ln(af:bg μ H w){t:TypeId}{ax:Array Field}{fd:Field}{f:Nat}(hu:P.underlying t=some (.struct ax))(hf:ax[f]? =some fd){cs:List I}{bo:Value}(U:a1 μ (.agg cs) bo){v:I}
  (h:lE P fd.type cs fd.offset=some v):ep P μ H w (Instr.field t bo f) v H:=by
 obtain⟨l,rfl,ar⟩:=U
 obtain⟨u,h1,aa⟩:=p0 (P:=P) (w:=w) ar h
 exact .same af (v':=u) (by simp[Instr.field,bD hu,hf,asAgg,h1]) aa
theorem Lo(af:bg μ H w){s:TypeId}{ax:Array Field}{fd:Field}{f n b off:Nat}(hu:P.underlying s=some (.struct ax))(hf:ax[f]? =some fd)(aC:cQ P fd.type=some n)(p1:n≠0){bo:Value}
  (U:a1 μ (.ptr b off) bo):ep P μ H w (Instr.fieldAt s bo f) (.ptr b (off+fd.offset)) H:=by
 obtain⟨i,ag,rfl⟩:=U
 refine .same af (v':=.pointer (some ⟨i.a6,i.base+(off+fd.offset),none⟩)) ?_ ⟨i,ag,rfl⟩
 simp[Instr.fieldAt,bD hu,hf,Instr.sureAddr,fieldPlace,run_sizeOf aC,p1,add_plain,Nat.add_assoc]
theorem Lp(af:bg μ H w){t e:TypeId}{b off n k sz:Nat}{c:cb}{cO:IntKind}(hu:P.underlying t=some (.slice e))(ad:cQ P e=some sz){bo:Value}(U:a1 μ (.slice b off n c) bo)(hk:k<n):
  ep P μ H w (Instr.indexAt t bo (.int cO (k:Int))) (.ptr b (off+k*sz)) H:=by
 obtain⟨i,ag,ab⟩:=U
 have jt:∃cap,bo=.slice (some ⟨i.a6,i.base+off,none⟩) n cap:=by
  cases c with
  |exact c=>exact⟨c,ab⟩
  |aH fx=>obtain⟨c,h,_⟩:=ab;exact⟨c,h⟩
  |dead=>obtain⟨aA,_⟩:=ab;omega
 obtain⟨cap,rfl⟩:=jt
 refine .same af (v':=.pointer (some ⟨i.a6,i.base+(off+k*sz),none⟩)) ?_ ⟨i,ag,rfl⟩
 simp only[Instr.indexAt,asIntOf,Sem.run_bind,Sem.run_pure,Result.andThen_ok,bD hu]
 rw[if_pos ⟨by omega,by omega⟩]
 simp[run_sizeOf ad,add_plain,Nat.add_assoc]
theorem Lq(af:bg μ H w){t e:TypeId}{b off n k sz:Nat}{cO:IntKind}(hu:P.underlying t=some (.array n e))(ad:cQ P e=some sz){bo:Value}(U:a1 μ (.ptr b off) bo)(hk:k<n):
  ep P μ H w (Instr.indexAt t bo (.int cO (k:Int))) (.ptr b (off+k*sz)) H:=by
 obtain⟨i,ag,rfl⟩:=U
 refine .same af (v':=.pointer (some ⟨i.a6,i.base+(off+k*sz),none⟩)) ?_ ⟨i,ag,rfl⟩
 simp only[Instr.indexAt,asIntOf,Sem.run_bind,Sem.run_pure,Result.andThen_ok,bD hu,Instr.sureAddr]
 rw[if_pos ⟨by omega,by omega⟩]
 simp[run_sizeOf ad,add_plain,Nat.add_assoc]
theorem Lr(af:bg μ H w){t e:TypeId}{n k sz:Nat}{cO:IntKind}{cs:List I}(hu:P.underlying t=some (.array n e))(ad:cQ P e=some sz){bo:Value}(U:a1 μ (.agg cs) bo)(hk:k<n){v:I}
  (h:lE P e cs (k*sz)=some v):ep P μ H w (Instr.index t bo (.int cO (k:Int))) v H:=by
 obtain⟨l,rfl,ar⟩:=U
 obtain⟨u,h1,aa⟩:=p0 (P:=P) (w:=w) ar h
 refine .same af (v':=u) ?_ aa
 simp only[Instr.index,asIntOf,Sem.run_bind,Sem.run_pure,Result.andThen_ok,bD hu]
 rw[if_pos ⟨by omega,by omega⟩]
 simp[run_sizeOf ad,h1]
theorem Ls(af:bg μ H w){t:TypeId}{k:Nat}{cO:IntKind}{s:List UInt8}(hu:P.underlying t=some .string){bo:Value}(U:a1 μ (.str s) bo){c:UInt8}(h:nth k s=some c):
  ep P μ H w (Instr.index t bo (.int cO (k:Int))) (.int .u8 (Int.ofNat c.toNat)) H:=by
 obtain⟨bs,rfl,rfl⟩:=U
 rw[ks] at h
 refine .same af (v':=.int .u8 (c.toNat:Int)) ?_ rfl
 have hk:k<bs.data.size:=by
  rcases Nat.lt_or_ge k bs.data.size with ah|ah
  · exact ah
  · rw[List.getElem?_eq_none (by simpa using ah)] at h;cases h
 have an:bs[k]? =some c:=by
  rw[Array.getElem?_toList] at h
  rw[<-h]
  show(if h:k<bs.size then some bs[k] else none)=_
  have eP:k<bs.size:=hk
  rw[dif_pos eP,Array.getElem?_eq_getElem hk];rfl
 simp only[Instr.index,asIntOf,Sem.run_bind,Sem.run_pure,Result.andThen_ok,bD hu]
 rw[if_pos (by omega)]
 simp[an]
end
end aS
namespace aS
open Go
section
variable {P:Program} {μ:bd} {H:J} {w:World}
theorem xU(μ:bd):∀l:List UInt8,bL μ (cU l) (l.map λb=>.int .u8 b.toNat)
 |[]=>rfl
 |b::l=>⟨_,_,rfl,rfl,xU μ l⟩
theorem Lt(t:ByteArray):(t.extract 0 t.size)=t:=by
 obtain⟨d⟩:=t
 simp[ByteArray.ext_iff,ByteArray.data_extract,ByteArray.size]
theorem xV(af:bg μ H w){size n:Nat}{x:I}{bo:Value}(U:a1 μ x bo){cs:List I}(h:h7 H size x=some (n,cs)):
  (Builtin.lenOf bo).run P w=.ok n w/\(∃us:List Value,(Builtin.firstCells size n bo).run P w=.ok ⟨us⟩ w/\bL μ cs us):=by
 cases x<;>simp only[h7] at h<;>try cases h
 · split at h<;>try cases h
   obtain⟨bs,rfl,rfl⟩:=U
   refine⟨by rw[show bs.data.toList.length=bs.size from Array.length_toList];rfl,_,?_,xU μ _⟩
   have bp:bs.data.toList.length=bs.size:=Array.length_toList
   simp only[Builtin.firstCells,Sem.run_pure,bp,Lt]
   congr 1
   apply Array.ext'
   simp
 · cases U
   exact⟨rfl,[],rfl,rfl⟩
 · rename_i b off len cap
   obtain⟨i,ag,ab⟩:=U
   cases cap with
   |dead=>
    obtain⟨rfl,a,c,rfl⟩:=ab
    simp at h
    obtain⟨rfl,rfl⟩:=h
    exact⟨rfl,[],by simp[Builtin.firstCells,_root_.Go.loadCells,loadCellsFrom],rfl⟩
   |exact c=>
    cases ab
    simp only at h
    split at h
    · rename_i bC ar
      cases h
      obtain⟨us,h1,aa⟩:=pS (P:=P) af ag ar
      exact⟨rfl,us,by simp only[Builtin.firstCells];exact h1,aa⟩
    · cases h
   |aH fx=>
    obtain⟨c,rfl,_⟩:=ab
    simp only at h
    split at h
    · rename_i bC ar
      cases h
      obtain⟨us,h1,aa⟩:=pS (P:=P) af ag ar
      exact⟨rfl,us,by simp only[Builtin.firstCells];exact h1,aa⟩
    · cases h
theorem Lu{z:Value}(n:Nat){mo:List I}(aW:bL μ mo z.cells.toList):bL μ (fN n mo) (Builtin.zeroCells z.cells n).toList:=by
 have:=u_ aW rfl n
 have ar:=aW.length
 have ao:z.cells.toList.length=z.cells.size:=by simp
 rw[ar,ao] at this
 exact this
theorem Lv(need old:Nat)(h:old<need):Builtin.nextslicecap need old<=4*need+2048:=by
 unfold Builtin.nextslicecap
 split
 · omega
 · split
   · omega
   · have an:∀rounds c,c<=2*need+768->(∀k,k<=rounds->True)->Builtin.growBy need rounds c<=4*need+2048:=by
       intro rounds
       induction rounds with
       |zero=>intro c ab _;simp only[Builtin.growBy];omega
       |succ r bc=>
        intro c ab _
        simp only[Builtin.growBy]
        split
        · omega
        · rename_i bx
          exact bc _ (by omega) (λ_ _=>trivial)
     exact an 4 old (by omega) (λ_ _=>trivial)
theorem bg.Lw{w':World}(h:bg μ H w){b:Nat}{o o':b8}{i:fW}(ae:H.get b=some o)(gO:o.nd=false)(ag:μ b=some i)
  (ad:w'.heap.size=w.heap.size)(aQ:∀r,r≠i.a6->w'.heap[r]? =w.heap[r]?)(u4:w'.os=w.os)(Au:w'.output=w.output)(Av:w'.tape=w.tape)(base sz:Nat)
  (aj:j1 (fC μ H.n ⟨i.a6,base,sz⟩) o' ⟨i.a6,base,sz⟩ w')(hdr:w.drawn<=w'.drawn:=by first|exact Nat.le_refl _|assumption):
  bg (fC μ H.n ⟨i.a6,base,sz⟩) ((H.set b none).push o') w'/\bN μ H w (fC μ H.n ⟨i.a6,base,sz⟩) ((H.set b none).push o') w':=by
 have hle:=h.ng ⟨i.a6,base,sz⟩
 have rh:b<H.n:=(h.lt b i ag).1
 have td:H.get b≠none:=by rw[ae];simp
 have fc:∀c,((H.set b none).push o').get c=if c=H.n then some o' else if c=b then none else H.get c:=λc=>by
  rw[J.gC,J.cL];rfl
 have oQ:∀c,c<H.n->((H.set b none).push o').get c≠none->c≠b/\H.get c≠none:=λc ab aC=>by
  rw[fc,if_neg (by omega)] at aC
  by_cases e:c=b
  · rw[if_pos e] at aC;exact absurd rfl aC
  · rw[if_neg e] at aC;exact⟨e,aC⟩
 constructor
 · refine⟨λc pP j ab aG=>?_,λc d j k ab ak aG hk e=>?_,λc j aG=>?_,λc ab=>?_⟩
   · rw[fc] at ab
     by_cases e:c=H.n
     · rw[if_pos e] at ab;subst e;cases ab;rw[fD] at aG;cases aG;exact aj
     · rw[if_neg e] at ab;rw[gD _ _ e] at aG
       by_cases au:c=b
       · rw[if_pos au] at ab;cases ab
       · rw[if_neg au] at ab
         exact(h.rel c pP j ab aG).mono hle (aQ _ λcw=>au (h.inj c b j i (by rw[ab];simp) ⟨o,ae,gO⟩ aG ag cw))
   · have side:∀c j,c≠H.n->((H.set b none).push o').get c≠none->fC μ H.n ⟨i.a6,base,sz⟩ c=some j->j.a6≠i.a6:=λc j xW ab aG e=>by
       rw[gD _ _ xW] at aG
       obtain⟨aT,bb⟩:=oQ c (h.lt c j aG).1 ab
       exact aT (h.inj c b j i bb ⟨o,ae,gO⟩ aG ag e)
     by_cases av:c=H.n
     · by_cases au:d=H.n
       · rw[av,au]
       · subst av;rw[fD] at aG;cases aG
         exact absurd e.symm (side d k au (by obtain⟨x,U,_⟩:=ak;rw[U];simp) hk)
     · by_cases au:d=H.n
       · subst au;rw[fD] at hk;cases hk
         exact absurd e (side c j av ab aG)
       · rw[gD _ _ av] at aG;rw[gD _ _ au] at hk
         exact h.inj c d j k (oQ c (h.lt c j aG).1 ab).2 (by
          obtain⟨x,U,u5⟩:=ak
          rw[fc,if_neg au] at U
          split at U
          · cases U
          · exact⟨x,U,u5⟩) aG hk e
   · by_cases e:c=H.n
     · subst e;rw[fD] at aG;cases aG
       have:=(h.lt b i ag).2
       exact⟨by simp,by rw[ad];exact this⟩
     · rw[gD _ _ e] at aG
       have:=h.lt c j aG
       exact⟨by simp;omega,by rw[ad];exact this.2⟩
   · simp at ab
     rw[fc,if_neg (by omega),if_neg (by omega)];exact h.bound c (by omega)
 · refine⟨hle,by omega,by simp,λc ab aC=>(oQ c ab aC).2,λc ab hm=>(by rw[fc,if_neg (by omega),if_neg];intro e;subst e;rw[ag] at hm;cases hm),λr _ aC=>aQ r λe=>aC b i td ag e.symm,λc j h1 aa=>?_,λc pP j ab pQ aG=>?_,u4,Au,Av,hdr⟩
   · by_cases e:c=H.n
     · subst e;rw[fD] at aa;cases aa
       exact⟨Nat.le_refl _,.inr ⟨b,o,i,ae,gO,ag,rfl⟩⟩
     · rw[gD _ _ e,h1] at aa;cases aa
   · have b9:c≠b:=by intro e;subst e;rw[ae] at ab;cases ab;rw[gO] at pQ;cases pQ
     have xW:=(h.lt c j aG).1
     refine⟨by rw[fc,if_neg (by omega),if_neg b9];exact ab,aQ _ λe=>b9 (h.inj c b j i (by rw[ab];simp) ⟨o,ae,gO⟩ aG ag e)⟩
theorem bg.kill(h:bg μ H w){b:Nat}{o:b8}{i:fW}(ae:H.get b=some o)(gO:o.nd=false)(ag:μ b=some i):
  bg μ (H.set b none) w/\bN μ H w μ (H.set b none) w:=by
 have oQ:∀c,(H.set b none).get c≠none->H.get c≠none:=λc aC=>by
  rw[J.cL] at aC
  by_cases e:c=b
  · rw[if_pos e] at aC;exact absurd rfl aC
  · rw[if_neg e] at aC;exact aC
 constructor
 · refine⟨λc pP j ab aG=>?_,λc d j k ab ak=>h.inj c d j k (oQ c ab) (by
     obtain⟨x,U,u5⟩:=ak
     rw[J.cL] at U
     split at U
     · cases U
     · exact⟨x,U,u5⟩),h.lt,λc ab=>?_⟩
   · rw[J.cL] at ab
     by_cases e:c=b
     · rw[if_pos e] at ab;cases ab
     · rw[if_neg e] at ab;exact h.rel c pP j ab aG
   · rw[J.cL]
     split
     · rfl
     · exact h.bound c ab
 · refine⟨dB.refl μ,Nat.le_refl _,Nat.le_refl _,λc _ ab=>oQ c ab,λc _ hm=>(by rw[J.cL,if_neg];intro e;subst e;rw[ag] at hm;cases hm),λ_ _ _=>rfl,λc j h1 aa=>(by rw[h1] at aa;cases aa),λc pP j ab pQ aG=>⟨?_,rfl⟩,rfl,rfl,rfl,Nat.le_refl _⟩
   have b9:c≠b:=by intro e;subst e;rw[ae] at ab;cases ab;rw[gO] at pQ;cases pQ
   rw[J.cL,if_neg b9];exact ab
theorem bg.drew(h:bg μ H w):bg μ H w.drew:=h.of_heap rfl
theorem bN.drew:bN μ H w μ H w.drew:=bN.of_heap rfl rfl rfl rfl
theorem Lx{need bytes:Nat}(h:jY need bytes=true):(4*need+2048)*bytes<=281474976710656/\need<=281474976710656:=by
 simp only[jY,Nat.ble_eq] at h
 have h1:(4*need+2048)*bytes<=(4*need+2048)*(bytes+1):=Nat.mul_le_mul_left _ (by omega)
 have aa:(4*need+2048)*1<=(4*need+2048)*(bytes+1):=Nat.mul_le_mul_left _ (by omega)
 refine⟨Nat.le_trans h1 h,?_⟩
 have ao:=Nat.le_trans aa h
 rw[Nat.mul_one] at ao
 generalize 281474976710656=q at ao⊢
 omega
theorem Ly{sT e:TypeId}{xT:Option TypeId}{i:TypeInfo}{z:Value}{argTypes:Array TypeId}{ty:TypeId}(aA:argTypes[0]? =some sT)(h1:argTypes[1]? =xT)(hu:P.underlying sT=some (.slice e))(U:nV P xT=true)(ag:P.info? e=some i)
  (aW:∀w:World,(zeroValue e).run P w=.ok z w){base:Option Addr}{sLen sCap n:Nat}{bo:Value}(ar:(Builtin.lenOf bo).run P w=.ok n w){us old:List Value}(hold:(Builtin.firstCells i.size sLen (.slice base sLen sCap)).run P w.drew=.ok ⟨old⟩ w.drew)
  (p2:(Builtin.firstCells i.size n bo).run P w.drew=.ok ⟨us⟩ w.drew)(bx:sCap<sLen+n)(n3:jY (sLen+n) i.bytes=true):
  ∃k3,sLen+n<=k3/\(Builtin.append_ argTypes ty #[.slice base sLen sCap,bo]).run P w=
   .ok (.slice (some ⟨w.heap.size,0,none⟩) (sLen+n) k3) (w.drew.alloc (.cells (⟨old⟩++⟨us⟩++Builtin.zeroCells z.cells (k3-(sLen+n))) e)):=by
 obtain⟨m1,m2⟩:=Lx n3
 have AF:=Lv (sLen+n) sCap bx
 have tf:¬(Builtin.nextslicecap (sLen+n) sCap*i.bytes>2^48):=by
  have h1:Builtin.nextslicecap (sLen+n) sCap*i.bytes<=(4*(sLen+n)+2048)*i.bytes:=Nat.mul_le_mul_right _ AF
  have aa:(2:Nat)^48=281474976710656:=by rfl
  rw[aa]
  exact Nat.not_lt.2 (Nat.le_trans h1 m1)
 have Lz:IntKind.max .i64=9223372036854775807:=rfl
 have xX:¬(((sLen+n:Nat):Int)>IntKind.i64.max):=by rw[Lz];omega
 have Ep:¬(sLen+n<=sCap):=by omega
 have bp:∀w:World,(_root_.Go.sizeOf e).run P w=.ok i.size w:=λw=>by simp[_root_.Go.sizeOf,run_typeInfo ag]
 have xY:(Question.appendCap (sLen+n) sCap e).forced=false:=rfl
 have xZ:∀w:World,(typeInfo e).run P w=.ok i w:=λw=>run_typeInfo ag
 have x0:∀(c:Nat) (cs:Array Value),(_root_.Go.newRow e cs).run P w.drew=.ok ⟨w.heap.size,0,none⟩ (w.drew.alloc (.cells cs e)):=λc cs=>rfl
 refine⟨(Question.appendCap (sLen+n) sCap e).cut (w.tape w.drawn (Question.appendCap (sLen+n) sCap e)),by simp[Question.cut],?_⟩
 cases xT with
 |none=>
  simp only[Builtin.append_,aA,h1,List.getElem?_toArray,List.getElem?_cons_zero,List.getElem?_cons_succ,Sem.run_bind,bD hu,Result.andThen_ok,bp,Sem.run_pure,ar,Bool.false_eq_true,if_false,if_neg Ep,xZ,xX,false_and,if_neg tf,
   run_choose,xY,run_askRoom,World.drew_eq,hold,p2,Bool.not_false,if_true,aW,x0 0]
 |some AG=>
  simp only[nV] at U
  cases ak:P.underlying AG with
  |none=>rw[ak] at U;cases U
  |some d=>
   rw[ak] at U
   cases d<;>first
   |(cases U;done)
   |simp only[Builtin.append_,aA,h1,List.getElem?_toArray,List.getElem?_cons_zero,List.getElem?_cons_succ,Sem.run_bind,bD hu,bD ak,Result.andThen_ok,bp,Sem.run_pure,ar,Bool.false_eq_true,if_false,if_neg Ep,xZ,xX,false_and,if_neg tf,
    run_choose,xY,run_askRoom,World.drew_eq,hold,p2,Bool.not_false,if_true,aW,x0 0]
theorem vh{sT e:TypeId}{xT:Option TypeId}{i:TypeInfo}{argTypes:Array TypeId}{ty:TypeId}(aA:argTypes[0]? =some sT)(h1:argTypes[1]? =xT)(hu:P.underlying sT=some (.slice e))(U:nV P xT=true)(ag:P.info? e=some i)
  {base:Option Addr}{sLen sCap n:Nat}{bo:Value}(ar:(Builtin.lenOf bo).run P w=.ok n w){us:List Value}
  (p2:(Builtin.firstCells i.size n bo).run P w=.ok ⟨us⟩ w)(hle:sLen+n<=sCap):
  (Builtin.append_ argTypes ty #[.slice base sLen sCap,bo]).run P w=match base with
   |some a=>((_root_.Go.storeCells (a.add (sLen*i.size)) us).run P w).andThen λ_ w'=>.ok (.slice base (sLen+n) sCap) w'
   |none=>.ok (.slice base (sLen+n) sCap) w:=by
 have bp:∀w:World,(_root_.Go.sizeOf e).run P w=.ok i.size w:=λw=>by simp[_root_.Go.sizeOf,run_typeInfo ag]
 cases xT with
 |none=>
  cases base<;>simp only[Builtin.append_,aA,h1,List.getElem?_toArray,List.getElem?_cons_zero,List.getElem?_cons_succ,Sem.run_bind,bD hu,Result.andThen_ok,bp,Sem.run_pure,ar,Bool.false_eq_true,if_false,if_pos hle,Bool.not_false,if_true,p2]
 |some AG=>
  simp only[nV] at U
  cases ak:P.underlying AG with
  |none=>rw[ak] at U;cases U
  |some d=>
   rw[ak] at U
   cases d<;>first
   |(cases U;done)
   |cases base<;>simp only[Builtin.append_,aA,h1,List.getElem?_toArray,List.getElem?_cons_zero,List.getElem?_cons_succ,Sem.run_bind,bD hu,bD ak,Result.andThen_ok,bp,Sem.run_pure,ar,Bool.false_eq_true,if_false,if_pos hle,Bool.not_false,if_true,p2]
theorem LA{l:List I}(h:l.all I.ca=true):∀a∈l,a.ca=true:=λa aJ=>List.all_eq_true.1 h a aJ
theorem AH(af:bg μ H w){sT e:TypeId}{xT:Option TypeId}{i:TypeInfo}{z:I}{argTypes:Array TypeId}{ty:TypeId}(aA:argTypes[0]? =some sT)(h1:argTypes[1]? =xT)(hu:P.underlying sT=some (.slice e))(U:nV P xT=true)
  (ag:P.info? e=some i)(aW:ek P e=some z){base:Option Addr}{sLen sCap n:Nat}{x:I}{bo:Value}(Er:a1 μ x bo){cs:List I}(gn:h7 H i.size x=some (n,cs)){old:List I}
  (hold:∃us:List Value,(Builtin.firstCells i.size sLen (.slice base sLen sCap)).run P w.drew=.ok ⟨us⟩ w.drew/\bL μ old us)(vi:old.length=sLen*i.size)(dt:cs.length=n*i.size)(bx:sCap<sLen+n){v:I}{H1 aD:J}(gN:bg μ H1 w)(LB:bN μ H w μ H1 w)
  {fz:Nat}(an:mU H1 e i.bytes i.size (sLen+n) z (old++cs) fz=some (v,aD)):ep P μ H w (Builtin.append_ argTypes ty #[.slice base sLen sCap,bo]) v aD:=by
 obtain⟨eV,Es,rfl,ae⟩:=kZ (P:=P) (w:=w) aW
 have LC:∀w:World,(zeroValue e).run P w=.ok eV w:=λw=>by
  unfold ek at aW
  simp only[ag] at aW
  cases Et:i.zero with
  |none=>rw[Et] at aW;cases aW
  |some z0=>
   have aT:∀w:World,(zeroValue e).run P w=.ok z0 w:=λw=>by simp[zeroValue,run_typeInfo ag,Et]
   rw[aT] at Es
   cases Es
   exact aT w
 obtain⟨ar,us,k4,iE⟩:=xV (P:=P) af Er gn
 obtain⟨_,nn,LD,Eu⟩:=xV (P:=P) af.drew Er gn
 obtain⟨os,u4,Ev⟩:=hold
 unfold mU at an
 split at an
 · rename_i ab
   simp only[Bool.and_eq_true] at ab
   obtain⟨⟨n3,n1⟩,dD⟩:=ab
   cases an
   obtain⟨k3,vj,LF⟩:=Ly (P:=P) (w:=w) (ty:=ty) aA h1 hu U ag LC ar u4 LD bx n3
   have mu:=(jq μ eV).cells ae
   have LG:=Nat.eq_of_beq_eq_true n1
   have LH:eV.cells.size=i.size:=by have:=mu.length;rw[LG] at this;simpa using this.symm
   have LI:bL μ (old++cs) (os++nn):=Ev.append Eu
   have LJ:os.length=sLen*i.size:=by rw[<-Ev.length,vi]
   have LK:nn.length=n*i.size:=by rw[<-Eu.length,dt]
   have hmul:(sLen+n)*i.size=sLen*i.size+n*i.size:=Nat.add_mul _ _ _
   have Ew:k3*i.size=(sLen+n)*i.size+(k3-(sLen+n))*i.size:=by rw[<-Nat.add_mul,Nat.add_sub_of_le vj]
   have AI:0+k3*i.size=((⟨os⟩:Array Value)++⟨nn⟩++Builtin.zeroCells eV.cells (k3-(sLen+n))).size:=by
    have aT:(⟨os⟩:Array Value).size=sLen*i.size:=LJ
    have bb:(⟨nn⟩:Array Value).size=n*i.size:=LK
    have bP:(Builtin.zeroCells eV.cells (k3-(sLen+n))).size=(k3-(sLen+n))*i.size:=by
     unfold Builtin.zeroCells;rw[Array.size_map,Array.size_range,LH]
    rw[Array.size_append,Array.size_append,aT,bb,bP,Ew,hmul]
    omega
   have hle:=gN.drew.ng ⟨w.heap.size,0,k3*i.size⟩
   obtain⟨ba,bH⟩:=gN.drew.alloc (.cells (old++cs) e .aH 0 fz) (.cells (⟨os⟩++⟨nn⟩++Builtin.zeroCells eV.cells (k3-(sLen+n))) e) (k3*i.size)
    ⟨_,0,0,World.heap_alloc_new _ _,λj a aG=>by
      obtain⟨u,nh,aj⟩:=LI.get aG
      refine⟨u,?_,aj.mono hle⟩
      have oS:j<(os++nn).length:=by
       rcases Nat.lt_or_ge j (os++nn).length with h|h
       · exact h
       · rw[List.getElem?_eq_none h] at nh;cases nh
      rw[Nat.zero_add,Array.getElem?_append_left (by simpa using oS)]
      simpa using nh,AI,by
      refine⟨?_,λj _ _ h=>by omega⟩
      simp[vi,dt];omega⟩
   refine⟨_,_,_,LF,⟨_,fD _ _ _,k3,rfl,vj,by simp⟩,ba,?_⟩
   exact LB.trans af gN (bN.drew.trans gN gN.drew bH)
 · cases an
end
end aS
