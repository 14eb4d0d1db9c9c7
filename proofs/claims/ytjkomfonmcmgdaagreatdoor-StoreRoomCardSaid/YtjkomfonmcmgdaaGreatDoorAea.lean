/-
  THE ABSTRACT EVALUATOR (the evaluator's definitions; values and memory): a deterministic semantics of loaded code, and the proof that its runs are runs of the program in the model, whatever the tape draws. No condition.
-/
import GoSem.Step
import Derived.Calls
import Derived.Laws.Sem
import Derived.Laws.World
set_option linter.unusedVariables false
set_option linter.unusedSimpArgs false
namespace aP
open Go
inductive b3 where
 |exact(n:Nat)
 |a1 (gF:Nat)
 |dead
inductive I where
 |bad
 |bool (b:Bool)
 |int (k:IntKind) (n:Int)
 |str (s:List UInt8)
 |bb
 |ptr (b off:Nat)
 |a0
 |slice (b off len:Nat) (cap:b3)
 |h4
 |map (r:Nat)
 |fR
 |fn (f:Nat) (first aU:List I)
 |dh (l:Nat)
 |e1
 |iface (t:Nat) (v:I)
 |agg (cs:List I)
 |aQ (vs:List I)
 deriving Inhabited
def I.cT:I->Bool
 |.bad|.agg _|.aQ _=>false
 |_=>true
def I.cells:I->List I
 |.agg cs=>cs
 |v=>[v]
inductive ih where
 |here|l (p:ih)|r (p:ih)
inductive aY where
 |leaf
 |node (l:aY) (v:I) (r:aY)
def w6:Nat->Nat->ih
 |0,_=>.here
 |f+1,n=>match n with
  |0=>.here
  |m+1=>match Nat.mod m 2 with
   |0=>.l (w6 f (Nat.div m 2))
   |_=>.r (w6 f (Nat.div m 2))
def g2(n:Nat):ih:=w6 n n
def aY.get:ih->aY->I
 |.here,.node _ v _=>v
 |.l p,.node l _ _=>get p l
 |.r p,.node _ _ r=>get p r
 |_,.leaf=>.bad
def aY.CN(l:aY)(v:I)(r:aY):aY:=match l with
 |.leaf=>.node .leaf v r
 |.node a b c=>.node (.node a b c) v r
def aY.CO(l:aY)(v:I)(r:aY):aY:=match r with
 |.leaf=>.node l v .leaf
 |.node a b c=>.node l v (.node a b c)
def aY.set:ih->I->aY->aY
 |.here,x,.node l _ r=>.node l x r
 |.here,x,.leaf=>.node .leaf x .leaf
 |.l p,x,.node l v r=>aY.CN (set p x l) v r
 |.l p,x,.leaf=>aY.CN (set p x .leaf) .bad .leaf
 |.r p,x,.node l v r=>aY.CO l v (set p x r)
 |.r p,x,.leaf=>aY.CO .leaf .bad (set p x .leaf)
inductive gM where
 |own|a1|ro|fz
 deriving DecidableEq
structure dN where
 key:I
 val:I
 born:Nat
inductive bU where
 |call (f:Nat) (args:List I)
 |collected (r:Nat)
inductive df where
 |cells (cs:List I) (el:Nat) (k:gM) (aO af:Nat)
 |map (es:List dN) (clock:Nat)
 |q9 (s:List UInt8) (pos:Nat)
 |mapIter (m:Option Nat) (since:Nat) (seen:List Nat) (last:Nat)
 |loop (st:LoopState) (fS:Option Code) (fn:Nat) (my:aY) (params:List Nat) (assign body:Code) (defers:Nat)
 |defrd (calls:Option (List bU))
 |raw (o:Obj)
inductive e6 where
 |leaf
 |node (l:e6) (v:Option df) (r:e6)
def e6.get:e6->Nat->Option df
 |.leaf,_=>none
 |.node l v r,n=>match n with
  |0=>v
  |m+1=>match Nat.mod m 2 with
   |0=>get l (Nat.div m 2)
   |_=>get r (Nat.div m 2)
def e6.lk:Nat->e6->Nat->Option df->e6
 |0,t,_,_=>t
 |f+1,.leaf,n,x=>match n with
  |0=>.node .leaf x .leaf
  |m+1=>match Nat.mod m 2 with
   |0=>.node (lk f .leaf (Nat.div m 2) x) none .leaf
   |_=>.node .leaf none (lk f .leaf (Nat.div m 2) x)
 |f+1,.node l v r,n,x=>match n with
  |0=>.node l x r
  |m+1=>match Nat.mod m 2 with
   |0=>.node (lk f l (Nat.div m 2) x) v r
   |_=>.node l v (lk f r (Nat.div m 2) x)
structure J where
 t:e6
 n:Nat
def J.get(h:J)(b:Nat):Option df:=h.t.get b
def J.set(h:J)(b:Nat)(o:Option df):J:=⟨e6.lk (b+1) h.t b o,h.n⟩
def J.push(h:J)(o:df):J:=⟨e6.lk (h.n+1) h.t h.n (some o),h.n+1⟩
inductive jg where
 |val (v:I) (h:J)
 |b6 (v:I) (h:J)
 |call (f:Nat) (args:List I) (h:J)
 |dh (l:Nat) (args:List I) (h:J)
 |ll (d:bU)
 |sS
 |fail (jh:String)
inductive av where
 |ret (v:I) (h:J)
 |b6 (v:I) (h:J)
 |fail (jh:String)
mutual
def n7:Value->I
 |.bool b=>.bool b
 |.int k n=>.int k n
 |.string s=>.str s.data.toList
 |.pointer none=>.bb
 |.slice none 0 0=>.a0
 |.map none=>.h4
 |.nilFunc=>.fR
 |.nilIface=>.e1
 |.agg ⟨cs⟩=>.agg (zX cs)
 |.tuple ⟨vs⟩=>.aQ (zX vs)
 |_=>.bad
def zX:List Value->List I
 |[]=>[]
 |v::vs=>n7 v::zX vs
end
def nth{α:Type}:Nat->List α->Option α
 |_,[]=>none
 |0,a::_=>some a
 |n+1,_::l=>nth n l
def takeN:Nat->List I->Option (List I)
 |0,_=>some []
 |_+1,[]=>none
 |n+1,a::l=>match takeN n l with
  |some r=>some (a::r)
  |none=>none
def jD{α:Type}:Nat->List α->List α
 |0,l=>l
 |_+1,[]=>[]
 |n+1,_::l=>jD n l
def dK:List UInt8->List UInt8->Bool
 |[],[]=>true
 |a::x,b::y=>match Nat.beq a.toNat b.toNat with
  |true=>dK x y
  |false=>false
 |_,_=>false
def dF:List UInt8->List UInt8->Bool
 |_,[]=>false
 |[],_::_=>true
 |a::x,b::y=>match Nat.beq a.toNat b.toNat with
  |true=>dF x y
  |false=>Nat.blt a.toNat b.toNat
def bM(x y:Int):Bool:=decide (x<y)
def fh(x y:Int):Bool:=decide (x<=y)
def a_(x y:Int):Bool:=x==y
def loadCells(h:J)(b off n:Nat):Option (List I):=
 match h.get b with
 |some (.cells cs _ _ _ _)=>takeN n (jD off cs)
 |_=>none
def au(h:J)(b off:Nat):Option I:=
 match h.get b with
 |some (.cells cs _ _ _ _)=>nth off cs
 |_=>none
def kV(k:gM)(aO af off n:Nat):Bool:=
 match k with
 |.ro|.fz=>false
 |_=>Nat.ble af aO||Nat.ble (off+n) aO||Nat.ble af off
def fT:Nat->List I->List I->Option (List I)
 |0,[],cs=>some cs
 |0,_::_,[]=>none
 |0,v::vs,_::cs=>match v.cT with
  |true=>match fT 0 vs cs with
   |some r=>some (v::r)
   |none=>none
  |false=>none
 |_+1,[],cs=>some cs
 |_+1,_::_,[]=>none
 |n+1,vs,c::cs=>match fT n vs cs with
  |some r=>some (c::r)
  |none=>none
def storeCells(h:J)(b off:Nat)(vs:List I):Option J:=
 match h.get b with
 |some (.cells cs el k aO af)=>
  match kV k aO af off vs.length with
  |true=>match fT off vs cs with
   |some bO=>some (h.set b (some (.cells bO el k aO af)))
   |none=>none
  |false=>none
 |_=>none
def newRow(h:J)(el:Nat)(cs:List I):Option (Nat×J):=
 match cs.all I.cT with
 |true=>some (h.n,h.push (.cells cs el .own 0 0))
 |false=>none
def qc(P:Program)(t:TypeId):Option Bool:=
 match P.underlying t with
 |some (.struct _)=>some true
 |some (.array _ _)=>some true
 |some _=>some false
 |none=>none
def dn(P:Program)(t:TypeId):Option Nat:=match P.info? t with
 |some i=>some i.size
 |none=>none
def ei(P:Program)(t:TypeId):Option I:=match P.info? t with
 |some i=>match i.zero with
  |some z=>match n7 z with
   |.bad=>none
   |a=>some a
  |none=>none
 |none=>none
def iQ(P:Program)(t:TypeId)(cs:List I)(off:Nat):Option I:=
 match qc P t,dn P t with
 |some true,some n=>match takeN n (jD off cs) with
  |some r=>some (.agg r)
  |none=>none
 |some false,_=>nth off cs
 |_,_=>none
def jT(place:Nat->Option (Nat×Nat))(cells:List I):List (Nat×I)->Option (List I)
 |[]=>some cells
 |(i,v)::rest=>
  match v with
  |.bad=>none
  |v=>match place i with
   |none=>none
   |some (off,size)=>
    match Nat.beq v.cells.length size&&Nat.ble (off+size) cells.length with
    |true=>match fT off v.cells cells with
     |some Pg=>jT place Pg rest
     |none=>none
    |false=>none
def fi{α:Type}:Nat->List α->List α
 |0,_=>[]
 |n+1,l=>l++fi n l
def eqFields(P:Program)(E:TypeId->I->I->Option Bool)(xs ys:List I):List Field->Option Bool
 |[]=>some true
 |f::bV=>match decide (f.name= "_") with
  |true=>eqFields P E xs ys bV
  |false=>match iQ P f.type xs f.offset,iQ P f.type ys f.offset with
   |some a,some b=>match E f.type a b with
    |some true=>eqFields P E xs ys bV
    |r=>r
   |_,_=>none
def w7(P:Program)(E:TypeId->I->I->Option Bool)(e:TypeId)(sz:Nat)(xs ys:List I):Nat->Nat->Option Bool
 |0,_=>some true
 |n+1,i=>match iQ P e xs (i*sz),iQ P e ys (i*sz) with
  |some a,some b=>match E e a b with
   |some true=>w7 P E e sz xs ys n (i+1)
   |r=>r
  |_,_=>none
def CP(h:J)(a i b j:Nat):Option Bool:=
 match Nat.beq a b with
 |true=>some (Nat.beq i j)
 |false=>match h.get a,h.get b with
  |some (.cells _ _ .own 0 0),some (.cells _ _ .own 0 0)=>some false
  |_,_=>none
def fU(P:Program)(h:J):Nat->TypeId->I->I->Option Bool
 |0,_,_,_=>none
 |d+1,t,x,y=>
  match P.underlying t with
  |none=>none
  |some .bool=>match x,y with
   |.bool a,.bool b=>some (a==b)
   |_,_=>none
  |some (.int _)=>match x,y with
   |.int j a,.int k b=>if j=k then some (a_ a b) else none
   |_,_=>none
  |some .string=>match x,y with
   |.str a,.str b=>some (dK a b)
   |_,_=>none
  |some (.pointer e)=>match x,y with
   |.bb,.bb=>some true
   |.bb,.ptr _ _=>some false
   |.ptr _ _,.bb=>some false
   |.ptr a i,.ptr b j=>match dn P e with
    |some (_+1)=>CP h a i b j
    |_=>none
   |_,_=>none
  |some (.slice _)=>match x,y with
   |.a0,.a0=>some true
   |.a0,.slice _ _ _ _=>some false
   |.slice _ _ _ _,.a0=>some false
   |_,_=>none
  |some (.map _ _)=>match x,y with
   |.h4,.h4=>some true
   |.h4,.map _=>some false
   |.map _,.h4=>some false
   |_,_=>none
  |some (.func _ _ _)=>match x,y with
   |.fR,.fR=>some true
   |.fR,.fn _ _ _=>some false
   |.fn _ _ _,.fR=>some false
   |_,_=>none
  |some (.interface _)=>match x,y with
   |.e1,.e1=>some true
   |.e1,.iface _ _=>some false
   |.iface _ _,.e1=>some false
   |.iface a v,.iface b w=>match Nat.beq a b with
    |false=>some false
    |true=>match P.info? a with
     |some i=>match i.comparable with
      |true=>fU P h d a v w
      |false=>none
     |none=>none
   |_,_=>none
  |some (.struct bV)=>match x,y with
   |.agg xs,.agg ys=>match P.stoodInHeld t with
    |true=>none
    |false=>eqFields P (fU P h d) xs ys bV.toList
   |_,_=>none
  |some (.array n e)=>match x,y with
   |.agg xs,.agg ys=>match dn P e with
    |some sz=>w7 P (fU P h d) e sz xs ys n 0
    |none=>none
   |_,_=>none
  |some _=>none
def q_(P:Program)(t:TypeId)(x y:Operand)(a b:I):Bool:=
 match a,b with
 |.e1,.e1=>(x matches .const _)||(y matches .const _)
 |.agg _,.agg _=>!P.eqGuardType P.depth t
 |_,_=>true
def arith(op:BinOp)(k:IntKind)(x y:Int):Option I:=
 match op with
 |.add=>some (.int k (k.wrap (x+y)))
 |.sub=>some (.int k (k.wrap (x-y)))
 |.mul=>some (.int k (k.wrap (x*y)))
 |.quo=>if y=0 then none else some (.int k (k.wrap (x.tdiv y)))
 |.rem=>if y=0 then none else some (.int k (x.tmod y))
 |.and=>some (.int k (k.wrap (BitVec.ofInt k.bits x&&&BitVec.ofInt k.bits y).toNat))
 |.or=>some (.int k (k.wrap (BitVec.ofInt k.bits x|||BitVec.ofInt k.bits y).toNat))
 |.xor=>some (.int k (k.wrap (BitVec.ofInt k.bits x^^^BitVec.ofInt k.bits y).toNat))
 |.andNot=>some (.int k (k.wrap (BitVec.ofInt k.bits x&&& ~~~BitVec.ofInt k.bits y).toNat))
 |.eql=>some (.bool (a_ x y))
 |.neq=>some (.bool (!a_ x y))
 |.lss=>some (.bool (bM x y))
 |.leq=>some (.bool (fh x y))
 |.gtr=>some (.bool (bM y x))
 |.geq=>some (.bool (fh y x))
 |_=>none
def ra(op:BinOp)(k:IntKind)(x y:Int):Option I:=
 if y<0 then none else
 match op with
 |.shl=>some (.int k (k.wrap (x*2^(min y.toNat k.bits))))
 |.shr=>some (.int k (x.fdiv (2^(min y.toNat k.bits))))
 |_=>none
def gG(op:BinOp)(x y:List UInt8):Option I:=
 match op with
 |.add=>if((x.length+y.length:Nat):Int)>IntKind.i64.max then none else some (.str (x++y))
 |.eql=>some (.bool (dK x y))
 |.neq=>some (.bool (!dK x y))
 |.lss=>some (.bool (dF x y))
 |.leq=>some (.bool (!dF y x))
 |.gtr=>some (.bool (dF y x))
 |.geq=>some (.bool (!dF x y))
 |_=>none
def eJ(P:Program)(h:J)(op:BinOp)(t:TypeId)(kr ks:Operand)(x y:I):Option I:=
 match x,y with
 |.int k a,.int ej b=>
  match op with
  |.shl|.shr=>ra op k a b
  |_=>if k=ej then arith op k a b else none
 |.str a,.str b=>gG op a b
 |x,y=>
  match op with
  |.eql=>if q_ P t kr ks x y then(match fU P h 100 t x y with
   |some b=>some (.bool b)
   |none=>none) else none
  |.neq=>if q_ P t kr ks x y then(match fU P h 100 t x y with
   |some b=>some (.bool (!b))
   |none=>none) else none
  |_=>none
def eK:I->Option Nat
 |.int _ (.ofNat n)=>some n
 |_=>none
def hg(d:Nat):Option I->Option Nat
 |none=>some d
 |some v=>eK v
def bounds(len cap:Nat)(aO af mx:Option I):Option (Nat×Nat×Nat):=
 match hg cap mx with
 |none=>none
 |some m=>match Nat.ble m cap with
  |false=>none
  |true=>match(match af,mx with
     |none,none=>some len
     |none,some _=>none
     |some v,_=>eK v) with
   |none=>none
   |some ak=>match Nat.ble ak m with
    |false=>none
    |true=>match hg 0 aO with
     |none=>none
     |some l=>match Nat.ble l ak with
      |false=>none
      |true=>some (l,ak,m)
def di(P:Program)(h:J)(t:TypeId)(x:I)(aO af mx:Option I):Option I:=
 match P.underlying t,x with
 |some .string,.str s=>match mx with
  |some _=>none
  |none=>match bounds s.length s.length aO af none with
   |some (l,ak,_)=>some (.str (List.take (ak-l) (jD l s)))
   |none=>none
 |some (.slice e),.a0=>match dn P e,bounds 0 0 aO af mx with
  |some _,some _=>some .a0
  |_,_=>none
 |some (.slice e),.slice b off len (.exact cap)=>match dn P e,bounds len cap aO af mx with
  |some sz,some (l,ak,m)=>some (.slice b (if m=l then off else off+l*sz) (ak-l) (.exact (m-l)))
  |_,_=>none
 |some (.slice e),.slice b off len (.a1 gF)=>match dn P e with
  |some sz=>if sz=gF then(match mx with
   |none=>match bounds len len aO af none with
    |some (l,ak,_)=>if l=0 then some (.slice b off ak (.a1 gF)) else if Nat.blt l len then some (.slice b (off+l*sz) (ak-l) (.a1 gF)) else some (.slice b off 0 .dead)
    |none=>none
   |some _=>match bounds len len aO af mx with
    |some (l,ak,m)=>some (.slice b (if m=l then off else off+l*sz) (ak-l) (.exact (m-l)))
    |none=>none) else none
  |none=>none
 |some (.slice e),.slice b off len .dead=>match dn P e,bounds 0 0 aO af mx with
  |some _,some _=>some (.slice b off 0 .dead)
  |_,_=>none
 |some (.array n e),.ptr b off=>match dn P e,bounds n n aO af mx with
  |some sz,some (l,ak,m)=>some (.slice b (if m=l then off else off+l*sz) (ak-l) (.exact (m-l)))
  |_,_=>none
 |some (.pointer arr),.ptr b off=>match P.underlying arr with
  |some (.array n e)=>match dn P e,bounds n n aO af mx with
   |some sz,some (l,ak,m)=>some (.slice b (if m=l then off else off+l*sz) (ak-l) (.exact (m-l)))
   |_,_=>none
  |_=>none
 |_,_=>none
def cc(P:Program)(h:J)(t:TypeId)(x:I):Option I:=
 match P.underlying t,x with
 |some .string,.str s=>some (.int .i64 (Int.ofNat s.length))
 |some (.array n _),_=>some (.int .i64 (Int.ofNat n))
 |some (.slice _),.slice _ _ n _=>some (.int .i64 (Int.ofNat n))
 |some (.slice _),.a0=>some (.int .i64 0)
 |some (.map _ _),.h4=>some (.int .i64 0)
 |some (.map _ _),.map r=>match h.get r with
  |some (.map es _)=>some (.int .i64 (Int.ofNat es.length))
  |_=>none
 |some (.pointer a),_=>match P.underlying a with
  |some (.array n _)=>some (.int .i64 (Int.ofNat n))
  |_=>none
 |_,_=>none
def uR(P:Program)(t:TypeId)(x:I):Option I:=
 match P.underlying t,x with
 |some (.array n _),_=>some (.int .i64 (Int.ofNat n))
 |some (.slice _),.slice _ _ _ (.exact n)=>some (.int .i64 (Int.ofNat n))
 |some (.slice _),.a0=>some (.int .i64 0)
 |_,_=>none
def dd:List UInt8->List I
 |[]=>[]
 |b::l=>.int .u8 (Int.ofNat b.toNat)::dd l
def fV(h:J)(size:Nat):I->Option (Nat×List I)
 |.a0=>some (0,[])
 |.str s=>match size with
  |1=>some (s.length,dd s)
  |_=>none
 |.slice b off len .dead=>if len=0 then some (0,[]) else none
 |.slice b off len _=>match loadCells h b off (len*size) with
  |some cs=>some (len,cs)
  |none=>none
 |_=>none
def kW(need bytes:Nat):Bool:=Nat.ble ((4*need+2048)*(bytes+1)) 281474976710656
def o4(P:Program):Option TypeId->Bool
 |none=>true
 |some t=>match P.underlying t with
  |some (.int _)=>false
  |some _=>true
  |none=>false
def ku(h:J)(e bytes size need:Nat)(z:I)(cs:List I)(fz:Nat):Option (I×J):=
 match kW need bytes&&Nat.beq z.cells.length size&&cs.all I.cT with
 |true=>some (.slice h.n 0 need (.a1 size),h.push (.cells cs e .a1 0 fz))
 |false=>none
def dt(P:Program)(h:J)(sT:TypeId)(xT:Option TypeId)(s x:I):Option (I×J):=
 match P.underlying sT,o4 P xT with
 |some (.slice e),true=>
  match P.info? e,ei P e with
  |some i,some z=>
   match fV h i.size x with
   |none=>none
   |some (n,cs)=>
    match s with
    |.a0=>match n with
     |0=>some (.a0,h)
     |_=>ku h e i.bytes i.size n z cs 0
    |.slice b off len (.exact cap)=>
     match Nat.ble (len+n) cap with
     |true=>match n with
      |0=>some (.slice b off len (.exact cap),h)
      |_=>match storeCells h b (off+len*i.size) cs with
       |some an=>some (.slice b off (len+n) (.exact cap),an)
       |none=>none
     |false=>match loadCells h b off (len*i.size) with
      |some old=>ku h e i.bytes i.size (len+n) z (old++cs) 0
      |none=>none
    |.slice b off len (.a1 gF)=>
     match Nat.beq gF i.size&&Nat.blt 0 gF with
     |true=>match n with
      |0=>some (s,h)
      |_=>match h.get b with
       |some (.cells old el .a1 aO af)=>
        match Nat.ble (off+(len+n)*gF) old.length with
        |true=>match storeCells h b (off+len*gF) cs with
         |some an=>some (.slice b off (len+n) (.a1 gF),an)
         |none=>none
        |false=>match Nat.ble af (off+len*gF)&&Nat.beq el e,loadCells h b off (len*gF) with
         |true,some o=>ku (h.set b none) e i.bytes i.size (len+n) z (o++cs) (af-off)
         |_,_=>none
       |_=>none
     |false=>none
    |_=>none
  |_,_=>none
 |_,_=>none
def uS(P:Program)(h:J)(zY:TypeId)(d s:I):Option (I×J):=
 match P.underlying zY with
 |some (.slice e)=>match dn P e with
  |some sz=>match fV h sz s with
   |some (n,cs)=>match d with
    |.a0=>some (.int .i64 0,h)
    |.slice b off len _=>
     let m:=Nat.min n len
     if m=0 then some (.int .i64 0,h) else
     match takeN (m*sz) cs with
     |some bO=>match storeCells h b off bO with
      |some an=>some (.int .i64 (Int.ofNat m),an)
      |none=>none
     |none=>none
    |_=>none
   |none=>none
  |none=>none
 |_=>none
def o5(P:Program)(h:J)(t:TypeId)(x:I):Option (I×J):=
 match P.underlying t,x with
 |some (.map _ _),.h4=>some (.aQ [],h)
 |some (.slice _),.a0=>some (.aQ [],h)
 |some (.map _ _),.map r=>match h.get r with
  |some (.map _ c)=>some (.aQ [],h.set r (some (.map [] c)))
  |_=>none
 |some (.slice e),.slice b off n _=>if n=0 then some (.aQ [],h) else
  match ei P e with
  |some z=>match storeCells h b off (fi n z.cells) with
   |some an=>some (.aQ [],an)
   |none=>none
  |none=>none
 |_,_=>none
def qd:I->I->Option I
 |.int k x,.int ej y=>if k=ej then some (.int k (if bM y x then y else x)) else none
 |_,_=>none
def mz:I->I->Option I
 |.int k x,.int ej y=>if k=ej then some (.int k (if bM x y then y else x)) else none
 |_,_=>none
def jE(f:I->I->Option I):I->List I->Option I
 |x,[]=>some x
 |x,y::l=>match f x y with
  |some z=>jE f z l
  |none=>none
def nj:List I->Option (List UInt8)
 |[]=>some []
 |.int .u8 (.ofNat n)::l=>match Nat.blt n 256,nj l with
  |true,some r=>some (UInt8.ofNat n::r)
  |_,_=>none
 |_=>none
def o6(P:Program)(h:J)(pT:TypeId)(p n:I):Option (I×J):=
 match p,eK n with
 |.bb,some 0=>some (.str [],h)
 |.ptr b off,some n=>if n=0 then some (.str [],h) else
  match P.underlying pT,h.get b with
  |some (.pointer u),some (.cells cs el k aO af)=>
   if P.underlyingId el=P.underlyingId u&&dn P el=some 1&&Nat.ble n 281474976710656&&decide (k≠ .ro) then
    (match takeN n (jD off cs) with
    |some r=>match nj r with
     |some bs=>some (.str bs,h.set b (some (.cells cs el .fz aO af)))
     |none=>none
    |none=>none) else none
  |_,_=>none
 |_,_=>none
def n8(P:Program)(kt:TypeId)(k:I):Bool:=
 match P.underlying kt with
 |some (.int _)=>match k with
  |.int _ _=>true
  |_=>false
 |some .string=>match k with
  |.str _=>true
  |_=>false
 |some .bool=>match k with
  |.bool _=>true
  |_=>false
 |_=>false
def zZ(P:Program)(cs:List I):List Field->Bool
 |[]=>true
 |f::bV=>match iQ P f.type cs f.offset with
  |some a=>match n8 P f.type a with
   |true=>zZ P cs bV
   |false=>false
  |none=>false
def z0(P:Program)(e:TypeId)(sz:Nat)(cs:List I):Nat->Nat->Bool
 |0,_=>true
 |n+1,i=>match iQ P e cs (i*sz) with
  |some a=>match n8 P e a with
   |true=>z0 P e sz cs n (i+1)
   |false=>false
  |none=>false
def lO(P:Program)(kt:TypeId)(k:I):Bool:=
 match k with
 |.agg cs=>match P.underlying kt with
  |some (.struct bV)=>zZ P cs bV.toList
  |some (.array n e)=>match dn P e with
   |some sz=>z0 P e sz cs n 0
   |none=>false
  |_=>false
 |k=>n8 P kt k
def o7:I->I->Option Bool
 |.int j a,.int k b=>if j=k then some (a_ a b) else none
 |.str a,.str b=>some (dK a b)
 |.bool a,.bool b=>some (a==b)
 |_,_=>none
def w8:List I->List I->Bool
 |[],[]=>true
 |a::l,b::m=>match o7 a b with
  |some true=>w8 l m
  |_=>false
 |_,_=>false
def rb(k x:I):Bool:=match k,x with
 |.agg a,.agg b=>w8 a b
 |.agg _,_=>false
 |_,_=>true
def o8(P:Program)(h:J)(kt:TypeId)(k x:I):Option Bool:=match k with
 |.agg cs=>fU P h 8 kt (.agg cs) x
 |k=>o7 k x
def jF(P:Program)(h:J)(kt:TypeId)(k:I):List dN->Nat->Option (Option (Nat×I))
 |[],_=>some none
 |e::es,i=>match o8 P h kt k e.key with
  |some true=>some (some (i,e.val))
  |some false=>jF P h kt k es (i+1)
  |none=>none
def w9(i:Nat)(es:List dN):I:=match nth i es with
 |some e=>e.key
 |none=>.bad
def qe(v:I)(key:I):Nat->List dN->List dN
 |_,[]=>[]
 |0,e::es=>⟨key,v,e.born⟩::es
 |n+1,e::es=>e::qe v key n es
def o9(P:Program)(ji:TypeId)(ok:Bool):Option (Nat×I)->Option I
 |some (_,v)=>some (if ok then .aQ [v,.bool true] else v)
 |none=>match ei P ji with
  |some z=>some (if ok then .aQ [z,.bool false] else z)
  |none=>none
def hy(P:Program)(h:J)(t:TypeId)(m k:I)(ok:Bool):Option I:=
 match P.underlying t with
 |some (.map kt ji)=>match lO P kt k with
  |true=>match m with
   |.h4=>o9 P ji ok none
   |.map r=>match h.get r with
    |some (.map es _)=>match jF P h kt k es 0 with
     |some r=>o9 P ji ok r
     |none=>none
    |_=>none
   |_=>none
  |false=>none
 |_=>none
def uT(P:Program)(h:J)(t:TypeId)(m k v:I):Option J:=
 match P.underlying t with
 |some (.map kt _)=>match lO P kt k with
  |true=>match m with
   |.map r=>match h.get r with
    |some (.map es clock)=>match jF P h kt k es 0 with
     |some (some (i,_))=>match rb k (w9 i es) with
      |true=>some (h.set r (some (.map (qe v k i es) clock)))
      |false=>none
     |some none=>some (h.set r (some (.map (es++[⟨k,v,clock⟩]) (clock+1))))
     |none=>none
    |_=>none
   |_=>none
  |false=>none
 |_=>none
def o_(P:Program)(h:J)(t:TypeId)(m k:I):Option (I×J):=
 match P.underlying t with
 |some (.map kt ji)=>match lO P kt k with
  |true=>match m with
   |.map r=>match h.get r with
    |some (.map es clock)=>match jF P h kt k es 0 with
     |some (some (i,v))=>match nth i es with
      |some e=>match rb k e.key with
       |true=>some (.aQ [v,.int .i64 (Int.ofNat e.born)],h.set r (some (.map (qe v k i es) clock)))
       |false=>none
      |none=>none
     |some none=>match ei P ji with
      |some z=>some (.aQ [z,.int .i64 (Int.ofNat clock)],h.set r (some (.map (es++[⟨k,z,clock⟩]) (clock+1))))
      |none=>none
     |none=>none
    |_=>none
   |_=>none
  |false=>none
 |_=>none
def sU(born:Int):List dN->Nat->Option (Nat×dN)
 |[],_=>none
 |e::es,i=>match a_ (Int.ofNat e.born) born with
  |true=>some (i,e)
  |false=>sU born es (i+1)
def pa(h:J)(m s v:I):Option J:=
 match m,s with
 |.map r,.int _ born=>match h.get r with
  |some (.map es clock)=>match sU born es 0 with
   |some (i,e)=>some (h.set r (some (.map (qe v e.key i es) clock)))
   |none=>none
  |_=>none
 |_,_=>none
def w_:Nat->List dN->List dN
 |_,[]=>[]
 |0,_::es=>es
 |n+1,e::es=>e::w_ n es
def pb(P:Program)(h:J)(t:TypeId)(m k:I):Option (I×J):=
 match P.underlying t with
 |some (.map kt _)=>match lO P kt k with
  |true=>match m with
   |.h4=>some (.aQ [],h)
   |.map r=>match h.get r with
    |some (.map es clock)=>match jF P h kt k es 0 with
     |some (some (i,_))=>some (.aQ [],h.set r (some (.map (w_ i es) clock)))
     |some none=>some (.aQ [],h.set r (some (.map es clock)))
     |none=>none
    |_=>none
   |_=>none
  |false=>none
 |_=>none
def CQ(s:List UInt8):Nat×Nat:=Utf8.decode ⟨s.toArray⟩ 0
def z1(h:J)(it:I)(isStr:Bool):Option (I×J):=
 match it with
 |.ptr r 0=>match h.get r,isStr with
  |some (.q9 s pos),true=>
   (match s with
   |[]=>some (.aQ [.bool false],h)
   |s=>let(c,w):=CQ s
    some (.aQ [.bool true,.int .i64 (Int.ofNat pos),.int .i32 (Int.ofNat c)],h.set r (some (.q9 (jD w s) (pos+w)))))
  |some (.mapIter none _ _ _),false=>some (.aQ [.bool false],h)
  |_,_=>none
 |_=>none
def sV(b:Nat):List dN->Option dN
 |[]=>none
 |e::l=>match Nat.beq e.born b with
  |true=>some e
  |false=>sV b l
def xa:List Nat->Option Nat
 |[]=>none
 |[b]=>some b
 |_::b::l=>xa (b::l)
def sW(h:J)(it:I):Option I:=
 match it with
 |.ptr r 0=>match h.get r with
  |some (.mapIter (some m) _ seen last)=>match h.get m,xa seen with
   |some (.map es clock),some b=>match Nat.beq clock last with
    |true=>match sV b es with
     |some e=>some (.aQ [e.key,e.val])
     |none=>none
    |false=>none
   |_,_=>none
  |_=>none
 |_=>none
end aP
namespace aP
open Go
inductive bF where
 |none|act (v:I)|done (v:I)
inductive bn where
 |nrm|exit (id:Nat)|ret|goto (l:Nat)|b6 (v:I)
inductive jG where
 |ok (e:bn) (r:aY) (d:List bU) (q:bF) (h:J)
 |fail (jh:String)
inductive aI where
 |fn (f:Nat)|dh (l:Nat)
inductive Acc where
 |env (j:Nat)|reg (p:ih)|val (v:I)
def dx(m:Nat)(env:List I)(r:aY):Acc->I
 |.env j=>(nth (m-1-j) env).getD .bad
 |.reg p=>r.get p
 |.val v=>v
def h5(t:Nat):List (Nat×Acc)->Option Acc
 |[]=>none
 |(u,a)::l=>match Nat.beq t u with
  |true=>some a
  |false=>h5 t l
def cJ(P:Program)(need:Nat)(loc:List (Nat×Acc)):Operand->Acc
 |.tmp t=>match h5 t loc with
  |some a=>a
  |none=>match Nat.testBit need t with
   |true=>.reg (g2 t)
   |false=>.val .bad
 |.const v=>.val (n7 v)
 |.global g=>match Nat.blt g P.globals.size with
  |true=>.val (.ptr g 0)
  |false=>.val .bad
 |.func f=>.val (.fn f [] [])
def sX(f:I)(args:List I)(h:J):jg:=
 match f with
 |.fn g first aU=>.call g (first++args++aU) h
 |.dh l=>.dh l args h
 |_=>.fail "callVal"
def fF(h:J)(jh:String):Option I->jg
 |some v=>.val v h
 |none=>.fail jh
def ln(jh:String):Option (I×J)->jg
 |some (v,h)=>.val v h
 |none=>.fail jh
def qf(jh:String):Option J->jg
 |some h=>.val (.aQ []) h
 |none=>.fail jh
def kindName:I->String
 |.bad=> "bad" |.bool _=> "bool" |.int _ n=> "int" ++toString n|.str s=> "str" ++toString s.length|.bb=> "nilP" |.ptr b o=> "ptr" ++toString b++ "+" ++toString o|.a0=> "nilS" |.slice b o n c=> "slice" ++toString b++ "+" ++toString o++ "," ++toString n++(match c with|.exact k=> "x" ++toString k|.a1 _=> "o" |.dead=> "d")
 |.h4=> "nilM" |.map _=> "map" |.fR=> "nilF" |.fn f _ _=> "fn" ++toString f|.dh _=> "yld" |.e1=> "nilI" |.iface t _=> "iface" ++toString t|.agg l=> "agg" ++toString l.length|.aQ l=> "tup" ++toString l.length
def z2(P:Program)(t:TypeId)(name:String):Option Nat:=
 match P.info? t with
 |some i=>match i.methods.find? (·.name==name) with
  |some m=>match m.path.isEmpty,m.func,P.underlying t with
   |true,some (f,true),some (.pointer _)=>some f
   |true,some (f,false),some (.pointer _)=>none
   |true,some (f,false),some _=>some f
   |_,_,_=>none
  |none=>none
 |none=>none
def h6(P:Program)(b:Builtin)(ats:Array TypeId)(vs:List I)(h:J):jg:=
 match b with
 |.recover=>.sS
 |.min=>match vs with
  |x::l=>fF h "min" (jE qd x l)
  |[]=>.fail "min"
 |.max=>match vs with
  |x::l=>fF h "max" (jE mz x l)
  |[]=>.fail "max"
 |b=>match ats[0]?,vs with
  |some t,[x]=>match b with
   |.len=>fF h ("len " ++kindName x) (cc P h t x)
   |.cap=>fF h "cap" (uR P t x)
   |.clear=>ln "clear" (o5 P h t x)
   |.unsafeSliceData=>match x with
    |.a0=>.val .bb h
    |.slice b off n (.exact c)=>if c=0 then .fail "SliceData" else .val (.ptr b off) h
    |.slice b off n (.a1 _)=>if n=0 then .fail "SliceData" else .val (.ptr b off) h
    |_=>.fail "SliceData"
   |_=>.fail "builtin"
  |some t,[x,y]=>match b with
   |.append=>ln ("append " ++kindName x++ " " ++kindName y) (dt P h t ats[1]? x y)
   |.copy=>ln "copy" (uS P h t x y)
   |.delete=>ln "delete" (pb P h t x y)
   |.unsafeString=>ln "usString" (o6 P h t x y)
   |_=>.fail "builtin"
  |_,_=>.fail "builtin"
def iR(P:Program)(src dst:TypeId)(x:I)(h:J):jg:=
 match P.underlying src,P.underlying dst,x with
 |some (.int _),some (.int k),.int _ n=>.val (.int k (k.wrap n)) h
 |some (.int _),some .string,.int _ n=>.val (.str (Utf8.encode n).data.toList) h
 |some .string,some .string,.str s=>.val (.str s) h
 |some .string,some (.slice e),.str s=>match P.underlying e with
  |some (.int .u8)=>.val (.slice h.n 0 s.length (.a1 1)) (h.push (.cells (dd s) e .a1 0 0))
  |_=>.fail "convert to runes"
 |some (.slice e),some .string,v=>match P.underlying e,v with
  |some (.int .u8),.a0=>.val (.str []) h
  |some (.int .u8),.slice b off n .dead=>if n=0 then .val (.str []) h else .fail "convert dead"
  |some (.int .u8),.slice b off n _=>match loadCells h b off n with
   |some cs=>match nj cs with
    |some bs=>.val (.str bs) h
    |none=>.fail "convert bytes"
   |none=>.fail "convert bytes"
  |_,_=>.fail "convert slice to string"
 |some (.pointer u),some .unsafePointer,.ptr b off=>match h.get b,dn P u with
  |some (.cells cs _ _ _ _),some (_+1)=>if Nat.blt off cs.length then .val (.ptr b off) h else .fail "convert pointer"
  |_,_=>.fail "convert pointer"
 |some .unsafePointer,some (.pointer u),.ptr b off=>match h.get b,dn P u with
  |some (.cells cs el .own _ _),some (_+1)=>if liesAt P P.depth el (cs.length/P.cellsOf el) off u 1 then .val (.ptr b off) h else .fail "convert from pointer"
  |_,_=>.fail "convert from pointer"
 |_,_,v=>.fail ("convert " ++kindName v)
def cH(P:Program)(o:Oper)(g:Operand->I)(h:J):jg:=
 match o.op with
 |.move x|.assign x=>.val (g x) h
 |.pick c a b=>match g c with
  |.bool true=>.val (g a) h
  |.bool false=>.val (g b) h
  |_=>.fail "pick"
 |.alloc e=>match ei P e with
  |some z=>match newRow h e z.cells with
   |some (b,an)=>.val (.ptr b 0) an
   |none=>.fail "alloc"
  |none=>.fail "alloc"
 |.box e x=>match newRow h e (g x).cells with
  |some (b,an)=>.val (.ptr b 0) an
  |none=>.fail "box"
 |.build t parts=>match ei P t with
  |some z=>match P.underlying t with
   |some (.struct bV)=>match bV.toList.all (λf=>(dn P f.type).isSome),jT (λi=>(bV[i]?).map λf=>(f.offset,P.cellsOf f.type)) z.cells (parts.toList.map λp=>(p.1,g p.2)) with
    |true,some cs=>.val (.agg cs) h
    |_,_=>.fail "build"
   |some (.array _ e)=>match dn P e with
    |some sz=>match jT (λi=>some (i*sz,sz)) z.cells (parts.toList.map λp=>(p.1,g p.2)) with
     |some cs=>.val (.agg cs) h
     |none=>.fail "build array"
    |none=>.fail "build"
   |_=>.fail "build"
  |none=>.fail "build"
 |.buildSlice t len parts=>match P.underlying t with
  |some (.slice e)=>match dn P e,ei P e with
   |some sz,some z=>match Nat.ble (len*sz) 16777216&&Nat.beq z.cells.length sz,jT (λi=>some (i*sz,sz)) (if len*sz=0 then[] else fi len z.cells) (parts.toList.map λp=>(p.1,g p.2)) with
    |true,some cs=>match newRow h e cs with
     |some (b,an)=>.val (.slice b 0 len (.exact len)) an
     |none=>.fail "buildSlice"
    |_,_=>.fail "buildSlice"
   |_,_=>.fail "buildSlice"
  |_=>.fail "buildSlice"
 |.insert t m k v=>qf "insert" (uT P h t (g m) (g k) (g v))
 |.load t a=>match g a with
  |.ptr b off=>match qc P t,dn P t with
   |some true,some n=>match loadCells h b off n with
    |some cs=>.val (.agg cs) h
    |none=>.fail ("load agg " ++toString b++ "+" ++toString off)
   |some false,_=>fF h ("load " ++toString b++ "+" ++toString off) (au h b off)
   |_,_=>.fail "load"
  |v=>.fail ("load of " ++kindName v)
 |.store t a v=>match g a with
  |.ptr b off=>match g v,dn P t with
   |.bad,_=>.fail "store bad"
   |v,some n=>match Nat.beq v.cells.length n with
    |true=>qf "store" (storeCells h b off v.cells)
    |false=>.fail "store size"
   |_,none=>.fail "store"
  |_=>.fail "store"
 |.ready _|.waits _=>.fail "ready"
 |.nilCheck x=>match g x with
  |.ptr b o=>.val (.ptr b o) h
  |.slice b o n c=>.val (.slice b o n c) h
  |.fn f a b=>.val (.fn f a b) h
  |.iface t v=>.val (.iface t v) h
  |_=>.fail "nilCheck"
 |.binOp op t x y _=>fF h ("binOp " ++kindName (g x)++ " " ++kindName (g y)) (eJ P h op t x y (g x) (g y))
 |.unOp op _ x=>match op,g x with
  |.not,.bool b=>.val (.bool (!b)) h
  |.neg,.int k n=>.val (.int k (k.wrap (0-n))) h
  |.xor,.int k n=>fF h "unOp" (arith .xor k (if k.signed then-1 else k.max) n)
  |_,_=>.fail "unOp"
 |.convert src dst x=>iR P src dst (g x) h
 |.sliceToArrayPointer .. =>.fail "sliceToArrayPointer"
 |.makeInterface t x=>match P.underlying t with
  |some (.interface _)=>.fail "makeInterface"
  |some _=>.val (.iface t (g x)) h
  |none=>.fail "makeInterface"
 |.makeFunc fn first aU=>match fn with
  |.func f=>.val (.fn f (first.toList.map g) (aU.toList.map g)) h
  |_=>.fail "makeFunc"
 |.makeMap t r=>match r with
  |none=>.val (.map h.n) (h.push (.map [] 0))
  |some x=>match P.underlying t,g x with
   |some (.map _ _),.int _ _=>.val (.map h.n) (h.push (.map [] 0))
   |_,_=>.fail "makeMap"
 |.makeChan .. =>.fail "makeChan"
 |.makeSlice t l c=>match P.underlying t,eK (g l),eK (g c) with
  |some (.slice e),some l,some c=>match P.info? e,ei P e with
   |some i,some z=>if l<=c&&Nat.ble (c*(i.bytes+1)) 1099511627776&&Nat.beq z.cells.length i.size then(match newRow h e (if c*i.size=0 then[] else fi c z.cells) with
    |some (b,an)=>.val (.slice b 0 l (.exact c)) an
    |none=>.fail "makeSlice") else .fail "makeSlice bounds"
   |_,_=>.fail "makeSlice"
  |_,_,_=>.fail "makeSlice"
 |.slice t x aO af mx=>fF h ("slice " ++kindName (g x)++((aO.map λo=>kindName (g o)).getD "-")++((af.map λo=>kindName (g o)).getD "-")) (di P h t (g x) (aO.map g) (af.map g) (mx.map g))
 |.fieldAddr s x f=>match P.underlying s,g x with
  |some (.struct bV),.ptr b off=>match bV[f]? with
   |some fd=>match dn P fd.type with
    |some 0=>.fail "fieldAddr 0"
    |some _=>.val (.ptr b (off+fd.offset)) h
    |none=>.fail "fieldAddr"
   |none=>.fail "fieldAddr"
  |_,v=>.fail ("fieldAddr " ++kindName v)
 |.field t x f=>match P.underlying t,g x with
  |some (.struct bV),.agg cs=>match bV[f]? with
   |some fd=>fF h "field" (iQ P fd.type cs fd.offset)
   |none=>.fail "field"
  |_,_=>.fail "field"
 |.indexAddr t x i=>match P.underlying t,g x,eK (g i) with
  |some (.array n e),.ptr b off,some i=>match dn P e with
   |some sz=>if i<n then .val (.ptr b (off+i*sz)) h else .fail "indexAddr range"
   |none=>.fail "indexAddr"
  |some (.slice e),.slice b off n c,some i=>match dn P e with
   |some sz=>if i<n then .val (.ptr b (off+i*sz)) h else .fail "indexAddr range"
   |none=>.fail "indexAddr"
  |_,v,w=>.fail ("indexAddr " ++kindName v++kindName (g i))
 |.index t x i=>match P.underlying t,g x,eK (g i) with
  |some (.array n e),.agg cs,some i=>match dn P e with
   |some sz=>if i<n then fF h "index" (iQ P e cs (i*sz)) else .fail "index range"
   |none=>.fail "index"
  |some .string,.str s,some i=>match nth i s with
   |some b=>.val (.int .u8 (Int.ofNat b.toNat)) h
   |none=>.fail "index str range"
  |_,_,_=>.fail "index"
 |.lookup t x i ok=>fF h "lookup" (hy P h t (g x) (g i) ok)
 |.mapUpdate t m k v=>qf "mapUpdate" (uT P h t (g m) (g k) (g v))
 |.mapEntry t m k=>ln "mapEntry" (o_ P h t (g m) (g k))
 |.entryStore t m s v=>qf "entryStore" (pa h (g m) (g s) (g v))
 |.range t x=>match P.underlying t,g x with
  |some .string,.str s=>.val (.ptr h.n 0) (h.push (.q9 s 0))
  |some (.map _ _),.h4=>.val (.ptr h.n 0) (h.push (.mapIter none 0 [] 0))
  |some (.map _ _),.map m=>match h.get m with
   |some (.map _ c)=>.val (.ptr h.n 0) (h.push (.mapIter (some m) c [] c))
   |_=>.fail "range"
  |_,_=>.fail "range"
 |.next it isStr=>ln "next" (z1 h (g it) isStr)
 |.entry it=>fF h "entry" (sW h (g it))
 |.typeAssert x xT as ok=>match P.underlying as,g x with
  |some (.interface _),_=>.fail "typeAssert to an interface"
  |some _,.e1=>if ok then(match ei P as with|some z=>.val (.aQ [z,.bool false]) h|none=>.fail "typeAssert") else .fail "typeAssert nil"
  |some _,.iface t v=>if t=as then .val (if ok then .aQ [v,.bool true] else v) h else
   if ok then(match ei P as with|some z=>.val (.aQ [z,.bool false]) h|none=>.fail "typeAssert") else .fail "typeAssert fails"
  |_,_=>.fail "typeAssert"
 |.extract t i=>match g t with
  |.aQ vs=>fF h "extract" (nth i vs)
  |_=>.fail "extract"
 |.call c=>match c.callee with
  |.value f=>sX (g f) (c.args.toList.map g) h
  |.invoke r name=>match g r with
   |.iface t v=>match z2 P t name with
    |some f=>.call f (v::c.args.toList.map g) h
    |none=>.fail ("invoke " ++name)
   |_=>.fail ("invoke " ++name)
  |.builtin b=>h6 P b c.argTypes (c.args.toList.map g) h
 |.go _=>.fail "go"
 |.defer c=>match c.callee with
  |.value f=>match g f with
   |.fn k first aU=>.ll (.call k (first++c.args.toList.map g++aU))
   |_=>.fail "defer"
  |_=>.fail "defer"
 |.panic x=>match g x with
  |.iface t v=>.b6 (.iface t v) h
  |_=>.fail "panic"
 |.send .. |.recv .. |.select .. =>.fail "comm"
structure Step where
 guard:Option (Acc×Bool)
 o:Oper
 loc:List (Nat×Acc)
 m:Nat
structure Hy where
 steps:List Step
 loc:List (Nat×Acc)
def jH(P:Program)(need:Nat)(ops:Array Oper)(loc:List (Nat×Acc))(o:Oper):Option (Acc×Bool):=
 match o.guard with
 |none=>none
 |some (j,b)=>match(ops[j]?).bind (·.dst) with
  |some t=>some (cJ P need loc (.tmp t),b)
  |none=>some (.val .bad,b)
def aliasOf(o:Oper):Option (Nat×Operand):=
 match o.guard,o.dst,o.op with
 |none,some t,.move x=>some (t,x)
 |none,some t,.assign x=>some (t,x)
 |_,_,_=>none
def hh(o:Oper)(m:Nat)(loc:List (Nat×Acc)):List (Nat×Acc):=
 match o.dst with
 |some t=>(t,.env m)::loc
 |none=>loc
def uU(P:Program)(need:Nat)(ops:Array Oper):List Oper->List (Nat×Acc)->List Step->Nat->Hy
 |[],loc,st,_=>⟨st.reverse,loc⟩
 |o::rest,loc,st,m=>
  match aliasOf o with
  |some (t,x)=>uU P need ops rest ((t,cJ P need loc x)::loc) st m
  |none=>uU P need ops rest (hh o m loc) (⟨jH P need ops loc o,o,loc,m⟩::st) (m+1)
def pc(P:Program)(need:Nat)(ops:Array Oper):Hy:=uU P need ops ops.toList [] [] 0
inductive mA where
 |ok (env:List I) (d:List bU) (q:bF) (h:J)
 |b6 (v:I) (d:List bU) (q:bF) (h:J)
 |fail (jh:String)
inductive xb where
 |ok (v:I) (d:List bU) (q:bF) (h:J)
 |b6 (v:I) (d:List bU) (q:bF) (h:J)
 |fail (jh:String)
def ew:Option (I×Bool)->Option Bool
 |none=>some true
 |some (.bool c,b)=>some (c==b)
 |some (.aQ [],_)=>some false
 |_=>none
def xc(d:List bU)(q:bF):av->xb
 |.ret v h=>.ok v d q h
 |.b6 v h=>.b6 v d q h
 |.fail w=>.fail w
def dO(P:Program)(inR:Bool)(call:aI->List I->J->av)(gd:Option (I×Bool))(o:Oper)(g:Operand->I)(d:List bU)(q:bF)(h:J):xb:=
 match ew gd with
 |none=>.fail ("guard " ++o.pos)
 |some false=>.ok (.aQ []) d q h
 |some true=>
  match cH P o g h with
  |.val v an=>.ok v d q an
  |.b6 v an=>.b6 v d q an
  |.call f args an=>xc d q (call (.fn f) args an)
  |.dh l args an=>xc d q (call (.dh l) args an)
  |.ll x=>if inR then .fail "defer in a round" else .ok (.aQ []) (x::d) q h
  |.sS=>if inR then .fail "recover in a round" else match q with
   |.none=>.ok .e1 d .none h
   |.done v=>.ok .e1 d (.done v) h
   |.act v=>.ok v d (.done v) h
  |.fail w=>.fail (w++ " at " ++o.pos)
def ij(P:Program)(need:Nat)(inR:Bool)(call:aI->List I->J->av)(r:aY):List Step->List I->List bU->bF->J->mA
 |[],env,d,q,h=>.ok env d q h
 |s::rest,env,d,q,h=>
  match dO P inR call (match s.guard with|none=>none|some (a,b)=>some (dx s.m env r a,b)) s.o (λx=>dx s.m env r (cJ P need s.loc x)) d q h with
  |.ok v bd bk an=>ij P need inR call r rest (v::env) bd bk an
  |.b6 v bd bk an=>.b6 v bd bk an
  |.fail w=>.fail w
def b3.beq:b3->b3->Bool
 |.exact a,.exact b=>Nat.beq a b
 |.a1 a,.a1 b=>Nat.beq a b
 |.dead,.dead=>true
 |_,_=>false
mutual
def I.beq:I->I->Bool
 |.bool a,.bool b=>a==b
 |.int j a,.int k b=>decide (j=k)&&a_ a b
 |.str a,.str b=>dK a b
 |.bb,.bb=>true
 |.ptr a i,.ptr b j=>Nat.beq a b&&Nat.beq i j
 |.a0,.a0=>true
 |.slice a i n c,.slice b j m d=>Nat.beq a b&&Nat.beq i j&&Nat.beq n m&&c.beq d
 |.h4,.h4=>true
 |.map a,.map b=>Nat.beq a b
 |.fR,.fR=>true
 |.fn f a b,.fn g c d=>Nat.beq f g&&I.nk a c&&I.nk b d
 |.dh a,.dh b=>Nat.beq a b
 |.e1,.e1=>true
 |.iface t v,.iface u w=>Nat.beq t u&&I.beq v w
 |.agg a,.agg b=>I.nk a b
 |.aQ a,.aQ b=>I.nk a b
 |_,_=>false
def I.nk:List I->List I->Bool
 |[],[]=>true
 |a::as,b::bs=>I.beq a b&&I.nk as bs
 |_,_=>false
end
inductive Ph where
 |pure|alloc|ek
def kindOf(P:Program):Op->Ph
 |.move _|.assign _|.pick .. |.build .. |.load .. |.nilCheck _|.binOp .. |.unOp .. |.makeInterface .. |.makeFunc .. |.slice .. |.fieldAddr .. |.field .. |.indexAddr .. |.index .. |.lookup .. |.typeAssert .. |.extract .. =>.pure
 |.convert _ d _=>match P.underlying d with
  |some (.slice _)=>.ek
  |_=>.pure
 |.call c=>match c.callee with
  |.builtin .len|.builtin .cap|.builtin .min|.builtin .max|.builtin .unsafeSliceData=>.pure
  |_=>.ek
 |.alloc _|.box .. |.buildSlice .. |.makeSlice .. =>.alloc
 |.makeMap _ none=>.alloc
 |_=>.ek
def j8(P:Program)(o:Op)(g:Operand->I)(b:Nat):Option (I×df):=
 match o with
 |.alloc e=>match ei P e with
  |some z=>match z.cells.all I.cT with
   |true=>some (.ptr b 0,.cells z.cells e .own 0 0)
   |false=>none
  |none=>none
 |.box e x=>match(g x).cells.all I.cT with
  |true=>some (.ptr b 0,.cells (g x).cells e .own 0 0)
  |false=>none
 |.buildSlice t len parts=>match P.underlying t with
  |some (.slice e)=>match dn P e,ei P e with
   |some sz,some z=>match Nat.ble (len*sz) 16777216&&Nat.beq z.cells.length sz,jT (λi=>some (i*sz,sz)) (if len*sz=0 then[] else fi len z.cells) (parts.toList.map λp=>(p.1,g p.2)) with
    |true,some cs=>match cs.all I.cT with
     |true=>some (.slice b 0 len (.exact len),.cells cs e .own 0 0)
     |false=>none
    |_,_=>none
   |_,_=>none
  |_=>none
 |.makeSlice t l c=>match P.underlying t,eK (g l),eK (g c) with
  |some (.slice e),some l,some c=>match P.info? e,ei P e with
   |some i,some z=>match decide (l<=c)&&Nat.ble (c*(i.bytes+1)) 1099511627776&&Nat.beq z.cells.length i.size,(if c*i.size=0 then[] else fi c z.cells) with
    |true,cs=>match cs.all I.cT with
     |true=>some (.slice b 0 l (.exact c),.cells cs e .own 0 0)
     |false=>none
    |_,_=>none
   |_,_=>none
  |_,_,_=>none
 |.makeMap _ none=>some (.map b,.map [] 0)
 |_=>none
structure DStep where
 i:Nat
 o:Oper
 e2:Nat
 loc:List (Nat×Acc)
def xd(gH:List Nat)(n:Nat)(o:Oper):Nat:=
 o.after.foldl (λs e=>match Region.binds .any e with
  |true=>s|||1<<<e.on|||(nth (n-1-e.on) gH).getD 0
  |false=>s) 0
def e7:List Oper->Nat->List (Nat×Acc)->List Nat->List DStep
 |[],_,_,_=>[]
 |o::l,n,loc,gH=>
  let m:=xd gH n o
  ⟨n,o,m,loc⟩::e7 l (n+1) (hh o n loc) (m::gH)
def iS:List Oper->Nat->List (Nat×Acc)->List (Nat×Acc)
 |[],_,loc=>loc
 |o::l,n,loc=>iS l (n+1) (hh o n loc)
def gV(P:Program)(need:Nat)(ops:Array Oper)(r:aY)(n:Nat)(env:List I)(s:DStep):Option (I×Bool):=
 match jH P need ops s.loc s.o with
 |none=>none
 |some (a,b)=>some (dx n env r a,b)
inductive CR where
 |ok (env:List I) (d:List bU) (q:bF) (h:J) (bf:List (Nat×Nat×J))
 |b6 (v:I) (env:List I) (d:List bU) (q:bF) (h:J) (bf:List (Nat×Nat×J))
 |fail (jh:String)
def gn(P:Program)(need:Nat)(inR:Bool)(call:aI->List I->J->av)(ops:Array Oper)(r:aY)(cE:Nat):List DStep->List I->List bU->bF->J->List (Nat×Nat×J)->CR
 |[],env,d,q,h,bf=>.ok env d q h bf
 |s::rest,env,d,q,h,bf=>
  let gd:=gV P need ops r s.i env s
  let g:=λx=>dx s.i env r (cJ P need s.loc x)
  match kindOf P s.o.op with
  |.alloc=>match ew gd with
   |none=>.fail ("guard " ++s.o.pos)
   |some false=>gn P need inR call ops r cE rest (.aQ []::env) d q h bf
   |some true=>match j8 P s.o.op g (cE+s.i) with
    |some (v,o)=>gn P need inR call ops r cE rest (v::env) d q (h.set (cE+s.i) (some o)) bf
    |none=>.fail ("alloc " ++s.o.pos)
  |.pure=>match dO P inR call gd s.o g d q h with
   |.ok v _ _ _=>gn P need inR call ops r cE rest (v::env) d q h bf
   |.b6 _ _ _ _=>.fail ("pure " ++s.o.pos)
   |.fail w=>.fail w
  |.ek=>
   match(match bf with|[]=>true|(e,_,_)::_=>Nat.testBit s.e2 e) with
   |false=>.fail ("order " ++s.o.pos)
   |true=>match dO P inR call gd s.o g d q h with
    |.ok v bd bk an=>gn P need inR call ops r cE rest (v::env) bd bk an ((s.i,s.e2,h)::bf)
    |.b6 v bd bk an=>match rest.all (λbc=>Nat.testBit bc.e2 s.i) with
     |true=>.b6 v env bd bk an ((s.i,s.e2,h)::bf)
     |false=>.fail ("panic " ++s.o.pos)
    |.fail w=>.fail w
def lP(P:Program)(need:Nat)(ops:Array Oper)(r:aY)(n:Nat)(env:List I)(s:DStep)(v:I)(h:J):Bool:=
 match ew (gV P need ops r n env s) with
 |none=>false
 |some false=>true
 |some true=>match cH P s.o (λx=>dx n env r (cJ P need s.loc x)) h with
  |.val v' _=>I.beq v' v
  |_=>false
def kX(P:Program)(need:Nat)(ops:Array Oper)(r:aY)(n:Nat)(env:List I)(s:DStep)(v:I):Option Nat->J->List (Nat×Nat×J)->Bool
 |dV,h,bf=>
  (match(match dV with|none=>false|some e=>Nat.testBit s.e2 e)||(match bf with|[]=>false|(_,m,_)::_=>Nat.testBit m s.i) with
   |true=>true
   |false=>lP P need ops r n env s v h)&&
  (match bf with
   |[]=>true
   |(e,_,an)::rest=>kX P need ops r n env s v (some e) an rest)
def lo(P:Program)(need:Nat)(ops:Array Oper)(r:aY)(n:Nat)(env:List I)(last:Option Nat)(h:J)(bf:List (Nat×Nat×J)):List DStep->Bool
 |[]=>true
 |s::rest=>(match Nat.blt s.i n,kindOf P s.o.op with
   |true,.pure=>kX P need ops r n env s ((nth (n-1-s.i) env).getD .bad) last h bf
   |_,_=>true)&&lo P need ops r n env last h bf rest
def sY(P:Program)(need:Nat)(inR:Bool)(call:aI->List I->J->av)(ops:Array Oper)(r:aY)(d:List bU)(q:bF)(h:J):mA:=
 let steps:=e7 ops.toList 0 [] []
 match gn P need inR call ops r h.n steps [] d q ⟨h.t,h.n+ops.size⟩ [] with
 |.ok env bd bk an bf=>match lo P need ops r env.length env none an bf steps with
  |true=>.ok env bd bk an
  |false=>.fail "orders"
 |.b6 v env bd bk an bf=>match bf with
  |(e,_,h0)::rest=>match lo P need ops r env.length env (some e) h0 rest steps with
   |true=>.b6 v bd bk an
   |false=>.fail "orders"
  |[]=>.fail "orders"
 |.fail w=>.fail w
def pd(need:Nat)(m:Nat)(env:List I)(fA:aY):List (Nat×Acc)->aY->aY
 |[],r=>r
 |(t,a)::l,r=>
  let r':=pd need m env fA l r
  match Nat.testBit need t with
  |true=>r'.set (g2 t) (dx m env fA a)
  |false=>r'
def uV:List (Nat×Acc)->aY->aY
 |[],r=>r
 |(t,_)::l,r=>(uV l r).set (g2 t) .bad
def mB(need:Nat)(r:aY)(loc:List (Nat×Acc)):mA->jG
 |.ok env d q h=>.ok .nrm (pd need env.length env r loc r) d q h
 |.b6 v d q h=>.ok (.b6 v) (uV loc r) d q h
 |.fail w=>.fail w
def qg(x:jG)(f:aY->List bU->bF->J->jG):jG:=
 match x with
 |.ok .nrm r d q h=>f r d q h
 |x=>x
def pe(f:aY->List bU->bF->J->jG):Nat->aY->List bU->bF->J->jG
 |0,_,_,_,_=>.fail "loop fuel"
 |n+1,r,d,q,h=>qg (f r d q h) (pe f n)
def n9(rd:Option Nat)(n:Nat):Nat:=match rd with
 |none=>n+1
 |some _=>n
def xe(need:Nat)(rd:Option Nat)(r:aY)(ps:List Nat)(as cn:Code)(d:List bU)(h:J):Option (List bU×J):=
 match rd with
 |none=>some (.collected h.n::d,(h.push (.defrd (some []))).push (.loop .ready none need r ps as cn h.n))
 |some CS=>match h.get CS with
  |some (.loop _ _ _ _ _ _ _ eL)=>some (d,h.push (.loop .ready none need r ps as cn eL))
  |_=>none
def nn(l:Nat)(r:aY)(d:List bU)(q:bF):av->jG
 |.ret _ h=>match h.get l with
  |some (.loop st fS gN rg ps as cn eL)=>match st with
   |.busy=>.fail "rangeFunc: busy"
   |_=>match fS with
    |none=>.ok .nrm r d q (h.set l (some (.loop .exhausted fS gN rg ps as cn eL)))
    |some .ret=>.ok .ret r d q (h.set l (some (.loop .exhausted fS gN rg ps as cn eL)))
    |some (.exit id)=>.ok (.exit id) r d q (h.set l (some (.loop .exhausted fS gN rg ps as cn eL)))
    |_=>.fail "rangeFunc: goto"
  |_=>.fail "rangeFunc: loop gone"
 |.b6 v h=>.ok (.b6 v) r d q h
 |.fail w=>.fail w
def dy(P:Program)(need:Nat)(rd:Option Nat)(call:aI->List I->J->av):Code->aY->List bU->bF->J->jG
 |.skip,r,d,q,h=>.ok .nrm r d q h
 |.region id ops draw,r,d,q,h=>
  match draw with
  |false=>
   let pl:=pc P need ops
   mB need r pl.loc (ij P need rd.isSome call r pl.steps [] d q h)
  |true=>mB need r (iS ops.toList 0 []) (sY P need rd.isSome call ops r d q h)
 |.seq a b,r,d,q,h=>qg (dy P need rd call a r d q h) (dy P need rd call b)
 |.cond c a b,r,d,q,h=>match dx 0 [] r (cJ P need [] c) with
  |.bool true=>dy P need rd call a r d q h
  |.bool false=>dy P need rd call b r d q h
  |_=>.fail "cond"
 |.block id b,r,d,q,h=>match dy P need rd call b r d q h with
  |.ok (.exit i) r' bd bk an=>if i=id then .ok .nrm r' bd bk an else .ok (.exit i) r' bd bk an
  |x=>x
 |.loop b,r,d,q,h=>pe (dy P need rd call b) 100000 r d q h
 |.exit id,r,d,q,h=>.ok (.exit id) r d q h
 |.ret,r,d,q,h=>.ok .ret r d q h
 |.label _,r,d,q,h=>.ok .nrm r d q h
 |.goto l,r,d,q,h=>.fail "goto"
 |.scope b,r,d,q,h=>dy P need rd call b r d q h
 |.rangeFunc f params assign body,r,d,q,h=>
  match xe need rd r params.toList assign body d h with
  |none=>.fail "rangeFunc"
  |some (bd,ab)=>
   match sX (dx 0 [] r (cJ P need [] f)) [.dh (n9 rd h.n)] ab with
   |.call g args ad=>nn (n9 rd h.n) r bd q (call (.fn g) args ad)
   |.dh bR args ad=>nn (n9 rd h.n) r bd q (call (.dh bR) args ad)
   |_=>.fail "rangeFunc: no function"
 |.refuse w,_,_,_,_=>.fail ("refuse " ++w)
def bit(t:Nat):Nat:=1<<<t
def Hz:List Oper->Nat->Nat->Nat
 |[],_,acc=>acc
 |o::l,written,acc=>
  let acc:=o.op.operands.foldl (λa x=>match x with
   |.tmp t=>if Nat.testBit written t then a else a|||bit t
   |_=>a) acc
  Hz l (match o.dst with|some t=>written|||bit t|none=>written) acc
def HA:Operand->Nat
 |.tmp t=>bit t
 |_=>0
def re:Code->Nat->Nat
 |.region _ ops _,acc=>Hz ops.toList 0 acc
 |.seq a b,acc=>re b (re a acc)
 |.cond c a b,acc=>re b (re a (acc|||HA c))
 |.block _ b,acc|.loop b,acc|.scope b,acc=>re b acc
 |.rangeFunc f ps a b,acc=>re b (re a (acc|||HA f|||ps.foldl (λa t=>a|||bit t) 0))
 |_,acc=>acc
def dL(fn:Func):Nat:=
 let rs:=fn.results.foldl (λa r=>match r with|.tmp t=>a|||bit t|.cell t _=>a|||bit t) 0
 match fn.body with
 |some c=>re c rs
 |none=>rs
def np:Nat->List I->aY->aY
 |_,[],r=>r
 |i,v::l,r=>np (i+1) l (r.set (g2 i) v)
def rf(P:Program)(need:Nat)(r:aY)(h:J)(x:ResultVar):Option I:=
 match x with
 |.tmp t=>match Nat.testBit need t with
  |true=>some (r.get (g2 t))
  |false=>none
 |.cell t ty=>match Nat.testBit need t with
  |true=>match r.get (g2 t),qc P ty,dn P ty with
   |.ptr b off,some true,some n=>(match loadCells h b off n with|some cs=>some (.agg cs)|none=>none)
   |.ptr b off,some false,_=>au h b off
   |_,_,_=>none
  |false=>none
def pf(f:ResultVar->Option I):List ResultVar->Option (List I)
 |[]=>some []
 |x::l=>match f x,pf f l with
  |some v,some vs=>some (v::vs)
  |_,_=>none
def qh(P:Program)(need:Nat)(fn:Func)(r:aY)(h:J):Option I:=
 match pf (rf P need r h) fn.results.toList with
 |some [v]=>some v
 |some vs=>some (.aQ vs)
 |none=>none
def n_(c:Nat):List UInt8->Nat->Int
 |[],_=>-1
 |b::l,i=>match Nat.beq b.toNat c with
  |true=>Int.ofNat i
  |false=>n_ c l (i+1)
def rh(P:Program)(fn:Func)(name:String)(args:List I)(h:J):Option (I×J):=
 match args with
 |[.int .i64 (.ofNat n)]=>if name= "internal/bytealg.MakeNoZero" then
    (match fn.resultTypes[0]? with
    |some t=>match P.underlying t with
     |some (.slice e)=>match Nat.ble n 1099511627776 with
      |true=>some (.slice h.n 0 n (.a1 1),h.push (.cells (List.replicate n .bad) e .a1 0 0))
      |false=>none
     |_=>none
    |none=>none) else none
 |[x]=>if name= "internal/abi.NoEscape" then some (x,h) else
  if name= "maps.clone" then(match x with
   |.iface t (.map r)=>match h.get r with
    |some (.map es c)=>some (.iface t (.map h.n),h.push (.map es c))
    |_=>none
   |_=>none) else none
 |[.str s,.int .u8 (.ofNat c)]=>if name= "internal/bytealg.IndexByteString" then
    (match Nat.blt c 256 with
    |true=>some (.int .i64 (n_ c s 0),h)
    |false=>none) else none
 |_=>none
def uW:Option I->bF
 |some v=>.act v
 |none=>.none
def xf(q:bF)(eM:Option I):Option I:=match q with
 |.done _=>none
 |_=>eM
def mC(P:Program)(call:aI->List I->J->av)(fn:Func)(args:List I)(q:bF)(h:J):jG:=
 match fn.body with
 |some c=>match Nat.ble args.length fn.ntmps with
  |true=>dy P (dL fn) none call c (np 0 args .leaf) [] q h
  |false=>.fail "too many arguments"
 |none=>.fail "no body"
def HB(P:Program)(fn:Func)(eM:Option I):jG->Option (Option I×J)
 |.ok e r d q h=>match(match e with|.nrm=>true|.ret=>true|_=>false),d,qh P (dL fn) fn r h with
  |true,[],some _=>some (xf q eM,h)
  |_,_,_=>none
 |.fail _=>none
def jj(P:Program)(call:aI->List I->J->av)(need:Nat)(fn:Func)(r:aY):Nat->Option I->List bU->J->av
 |0,_,_,_=>.fail "defers"
 |k+1,eM,ds,h=>match ds with
  |[]=>match eM with
   |none=>match qh P need fn r h with
    |some v=>.ret v h
    |none=>.fail "results"
   |some v=>.b6 v h
  |.collected b::ds=>match h.get b with
   |some (.defrd (some cs))=>jj P call need fn r k eM (cs++ds) (h.set b (some (.defrd none)))
   |_=>.fail "collected"
  |.call g args::ds=>
   match P.funcs[g]? with
   |some hz=>match HB P hz eM (mC P call hz args (uW eM) h) with
    |some (Pj,an)=>jj P call need fn r k Pj ds an
    |none=>.fail "deferred call"
   |none=>.fail "deferred"
def pg(P:Program)(call:aI->List I->J->av)(fn:Func):jG->av
 |.ok .nrm r d _ h=>jj P call (dL fn) fn r 100 none d h
 |.ok .ret r d _ h=>jj P call (dL fn) fn r 100 none d h
 |.ok (.b6 v) r d _ h=>jj P call (dL fn) fn r 100 (some v) d h
 |.ok _ _ _ _ _=>.fail "exit out of a function"
 |.fail w=>.fail (w++ " < " ++fn.name)
def qi(P:Program)(call:aI->List I->J->av)(f:Nat)(args:List I)(h:J):av:=
 match P.funcs[f]? with
 |none=>.fail "no function"
 |some fn=>
  match fn.body with
  |none=>match rh P fn fn.name args h with
   |some (v,an)=>.ret v an
   |none=>.fail ("extern " ++fn.name)
  |some _=>pg P call fn (mC P call fn args .none h)
def uX:List Nat->List I->aY->Option aY
 |[],[],r=>some r
 |t::ck,v::vs,r=>uX ck vs (r.set (g2 t) v)
 |_,_,_=>none
def xg(l:Nat):jG->av
 |.ok e _ [] _ h=>match h.get l with
  |some (.loop .busy _ gN rg ps as cn eL)=>match e with
   |.nrm=>.ret (.bool true) (h.set l (some (.loop .ready none gN rg ps as cn eL)))
   |.ret=>.ret (.bool false) (h.set l (some (.loop .done (some .ret) gN rg ps as cn eL)))
   |.exit id=>.ret (.bool false) (h.set l (some (.loop .done (some (.exit id)) gN rg ps as cn eL)))
   |.b6 v=>.b6 v h
   |.goto _=>.fail "goto in a round"
  |_=>.fail "round"
 |.ok .. =>.fail "round defers"
 |.fail w=>.fail (w++ " < round")
def CT(P:Program)(call:aI->List I->J->av)(l need:Nat)(cn:Code):jG->av
 |.ok .nrm r [] _ h=>match h.get l with
  |some (.loop .ready fS gN rg ps z3 z4 eL)=>xg l (dy P need (some l) call cn r [] .none (h.set l (some (.loop .busy fS gN rg ps z3 z4 eL))))
  |_=>.fail "round"
 |.ok .. =>.fail "round assign"
 |.fail w=>.fail w
def sZ(P:Program)(call:aI->List I->J->av)(l:Nat)(args:List I)(h:J):av:=
 match h.get l with
 |some (.loop .ready _ need rg ps as cn _)=>
  match uX ps args rg with
  |none=>.fail "yield: arguments"
  |some fA=>CT P call l need cn (dy P need (some l) call as fA [] .none h)
 |_=>.fail "yield"
def fa(P:Program)(intr:Nat->List I->J->Option (I×J)):Nat->aI->List I->J->av
 |0,_,_,_=>.fail "depth"
 |n+1,.fn f,args,h=>match intr f args h with
  |some (v,an)=>.ret v an
  |none=>qi P (fa P intr n) f args h
 |n+1,.dh l,args,h=>sZ P (fa P intr n) l args h
def ri(n:Nat):J:=⟨.leaf,n⟩
def lQ(ops:Array Oper)(o:Oper):List Nat:=
 o.dst.toList++(o.op.operands.toList.filterMap λ|.tmp t=>some t|_=>none)++(match o.guard with|some (j,_)=>((ops[j]?).bind (·.dst)).toList|none=>[])
def oa(o:Oper)(i:Nat):Bool:=o.after.toList.all λe=>!Region.binds .any e||Nat.blt e.on i
def z5(ops:Array Oper)(s:DStep):List DStep->Bool
 |[]=>true
 |bc::l=>(match(match s.o.dst with|some t=>(lQ ops bc.o).contains t|none=>false)||(match bc.o.dst with|some t=>(lQ ops s.o).contains t|none=>false) with
   |true=>Nat.testBit bc.e2 s.i
   |false=>true)&&z5 ops s l
def qj(ops:Array Oper):List DStep->Bool
 |[]=>true
 |s::l=>oa s.o s.i&&z5 ops s l&&qj ops l
def hA(bP:Nat):Code->Bool
 |.region _ ops draw=>ops.toList.all (λo=>match o.dst with|some t=>Nat.blt t bP|none=>true)&&(!draw||qj ops (e7 ops.toList 0 [] []))
 |.seq a b=>hA bP a&&hA bP b
 |.cond _ a b=>hA bP a&&hA bP b
 |.block _ b|.loop b|.scope b=>hA bP b
 |.rangeFunc _ ps a b=>ps.toList.all (λt=>Nat.blt t bP)&&hA bP a&&hA bP b
 |_=>true
end aP
namespace aP
open Go
def ih.num:ih->Nat
 |.here=>0
 |.l p=>2*p.num+1
 |.r p=>2*p.num+2
theorem HC:∀(f n:Nat),n<=f->(w6 f n).num=n
 |0,n,h=>by
  obtain rfl:n=0:=by omega
  rfl
 |f+1,0,_=>rfl
 |f+1,m+1,h=>by
  have e:Nat.mod m 2=m %2:=rfl
  have ay:Nat.div m 2=m/2:=rfl
  have a7:=HC f (m/2) (by omega)
  simp only[w6,e,ay]
  rcases Nat.mod_two_eq_zero_or_one m with h0|ab
  · simp only[h0,ih.num,a7];omega
  · simp only[ab,ih.num,a7];omega
theorem z6(n:Nat):(g2 n).num=n:=HC n n (Nat.le_refl n)
theorem Pk{m n:Nat}(h:g2 m=g2 n):m=n:=by rw[<-z6 m,<-z6 n,h]
theorem aY.rj(l:aY)(v:I)(r:aY):aY.CN l v r=.node l v r:=by cases l<;>rfl
theorem aY.rk(l:aY)(v:I)(r:aY):aY.CO l v r=.node l v r:=by cases r<;>rfl
theorem aY.nq(p:ih):aY.get p .leaf=.bad:=by cases p<;>rfl
theorem aY.xh:∀(p:ih) (v:I) (t:aY),(aY.set p v t).get p=v
 |.here,v,.leaf=>rfl
 |.here,v,.node .. =>rfl
 |.l p,v,.leaf=>by simp only[aY.set,aY.rj,aY.get];exact xh p v _
 |.l p,v,.node l _ _=>by simp only[aY.set,aY.rj,aY.get];exact xh p v _
 |.r p,v,.leaf=>by simp only[aY.set,aY.rk,aY.get];exact xh p v _
 |.r p,v,.node .. =>by simp only[aY.set,aY.rk,aY.get];exact xh p v _
theorem aY.xi:∀(p q:ih) (v:I) (t:aY),p≠q->(aY.set q v t).get p=t.get p
 |.here,.here,_,_,h=>absurd rfl h
 |.here,.l q,v,.leaf,_=>by simp[aY.set,aY.rj,aY.get]
 |.here,.l q,v,.node ..,_=>by simp[aY.set,aY.rj,aY.get]
 |.here,.r q,v,.leaf,_=>by simp[aY.set,aY.rk,aY.get]
 |.here,.r q,v,.node ..,_=>by simp[aY.set,aY.rk,aY.get]
 |.l p,.here,v,.leaf,_=>by simp[aY.set,aY.get,aY.nq]
 |.l p,.here,v,.node ..,_=>by simp[aY.set,aY.get]
 |.r p,.here,v,.leaf,_=>by simp[aY.set,aY.get,aY.nq]
 |.r p,.here,v,.node ..,_=>by simp[aY.set,aY.get]
 |.l p,.l q,v,.leaf,h=>by
  simp only[aY.set,aY.rj,aY.get]
  rw[xi p q v _ (λe=>h (by rw[e])),aY.nq]
 |.l p,.l q,v,.node ..,h=>by
  simp only[aY.set,aY.rj,aY.get]
  exact xi p q v _ (λe=>h (by rw[e]))
 |.r p,.r q,v,.leaf,h=>by
  simp only[aY.set,aY.rk,aY.get]
  rw[xi p q v _ (λe=>h (by rw[e])),aY.nq]
 |.r p,.r q,v,.node ..,h=>by
  simp only[aY.set,aY.rk,aY.get]
  exact xi p q v _ (λe=>h (by rw[e]))
 |.l p,.r q,v,.leaf,_=>by simp[aY.set,aY.rk,aY.get,aY.nq]
 |.l p,.r q,v,.node ..,_=>by simp[aY.set,aY.rk,aY.get]
 |.r p,.l q,v,.leaf,_=>by simp[aY.set,aY.rj,aY.get,aY.nq]
 |.r p,.l q,v,.node ..,_=>by simp[aY.set,aY.rj,aY.get]
theorem aY.cV(t u:Nat)(v:I)(r:aY):(aY.set (g2 u) v r).get (g2 t)=if t=u then v else r.get (g2 t):=by
 by_cases h:t=u
 · subst h;simp[aY.xh]
 · rw[if_neg h];exact aY.xi _ _ _ _ (λe=>h (Pk e))
theorem e6.nq(n:Nat):e6.get .leaf n=none:=rfl
theorem e6.cV:∀(f:Nat) (t:e6) (n m:Nat) (x:Option df),n<f->(e6.lk f t n x).get m=if m=n then x else t.get m
 |0,_,n,_,_,h=>by omega
 |f+1,.leaf,0,m,x,_=>by
  cases m with
  |zero=>simp[e6.lk,e6.get]
  |succ m=>
   simp only[e6.lk,e6.get]
   have e:Nat.mod m 2=m %2:=rfl
   rcases Nat.mod_two_eq_zero_or_one m with h|h<;>simp[e,h]
 |f+1,.node l v r,0,m,x,_=>by
  cases m with
  |zero=>simp[e6.lk,e6.get]
  |succ m=>simp[e6.lk,e6.get]
 |f+1,.leaf,n+1,m,x,aN=>by
  have e (k:Nat):Nat.mod k 2=k %2:=rfl
  have ay (k:Nat):Nat.div k 2=k/2:=rfl
  have a7:=λj=>cV f .leaf (n/2) j x (by omega)
  rcases Nat.mod_two_eq_zero_or_one n with h|h
  · simp only[e6.lk,e,h,ay]
    cases m with
    |zero=>simp[e6.get]
    |succ m=>
     simp only[e6.get,e,ay]
     rcases Nat.mod_two_eq_zero_or_one m with g|g
     · simp only[g,a7,e6.nq]
       have:(m/2=n/2)<->(m+1=n+1):=by omega
       simp only[this]
     · simp only[g,e6.nq]
       rw[if_neg (by omega)]
  · simp only[e6.lk,e,h,ay]
    cases m with
    |zero=>simp[e6.get]
    |succ m=>
     simp only[e6.get,e,ay]
     rcases Nat.mod_two_eq_zero_or_one m with g|g
     · simp only[g,e6.nq]
       rw[if_neg (by omega)]
     · simp only[g,a7,e6.nq]
       have:(m/2=n/2)<->(m+1=n+1):=by omega
       simp only[this]
 |f+1,.node l v r,n+1,m,x,aN=>by
  have e (k:Nat):Nat.mod k 2=k %2:=rfl
  have ay (k:Nat):Nat.div k 2=k/2:=rfl
  have Pl:=λj=>cV f l (n/2) j x (by omega)
  have z7:=λj=>cV f r (n/2) j x (by omega)
  rcases Nat.mod_two_eq_zero_or_one n with h|h
  · simp only[e6.lk,e,h,ay]
    cases m with
    |zero=>simp[e6.get]
    |succ m=>
     simp only[e6.get,e,ay]
     rcases Nat.mod_two_eq_zero_or_one m with g|g
     · simp only[g,Pl]
       have:(m/2=n/2)<->(m+1=n+1):=by omega
       simp only[this]
     · simp only[g]
       rw[if_neg (by omega)]
  · simp only[e6.lk,e,h,ay]
    cases m with
    |zero=>simp[e6.get]
    |succ m=>
     simp only[e6.get,e,ay]
     rcases Nat.mod_two_eq_zero_or_one m with g|g
     · simp only[g]
       rw[if_neg (by omega)]
     · simp only[g,z7]
       have:(m/2=n/2)<->(m+1=n+1):=by omega
       simp only[this]
theorem J.cV(h:J)(b c:Nat)(o:Option df):(h.set b o).get c=if c=b then o else h.get c:=
 e6.cV _ _ _ _ _ (Nat.lt_succ_self b)
theorem J.gp(h:J)(c:Nat)(o:df):(h.push o).get c=if c=h.n then some o else h.get c:=
 e6.cV _ _ _ _ _ (Nat.lt_succ_self _)
@[simp] theorem J.uY (h:J) (b:Nat) (o:Option df):(h.set b o).n=h.n:=rfl
@[simp] theorem J.rl (h:J) (o:df):(h.push o).n=h.n+1:=rfl
structure eV where
 bl:Nat
 base:Nat
 size:Nat
abbrev bq:=Nat->Option eV
def e8(μ aX:bq):Prop:=∀b i,μ b=some i->aX b=some i
theorem e8.refl(μ:bq):e8 μ μ:=λ_ _ h=>h
theorem e8.trans{μ aX HD:bq}(h:e8 μ aX)(an:e8 aX HD):e8 μ HD:=λb i e=>an b i (h b i e)
def CU(i:eV)(off len:Nat):b3->Value->Prop
 |.exact c,v=>v=.slice (some ⟨i.bl,i.base+off,none⟩) len c
 |.a1 gF,v=>∃c,v=.slice (some ⟨i.bl,i.base+off,none⟩) len c/\len<=c/\off+c*gF=i.size
 |.dead,v=>len=0/\∃a c,v=.slice (some a) 0 c
mutual
def bm(μ:bq):I->Value->Prop
 |.bad,_=>True
 |.bool b,v=>v=.bool b
 |.int k n,v=>v=.int k n
 |.str s,v=>∃t,v=.string t/\t.data.toList=s
 |.bb,v=>v=.pointer none
 |.ptr b off,v=>∃i,μ b=some i/\v=.pointer (some ⟨i.bl,i.base+off,none⟩)
 |.a0,v=>v=.slice none 0 0
 |.slice b off len cap,v=>∃i,μ b=some i/\CU i off len cap v
 |.h4,v=>v=.map none
 |.map r,v=>∃i,μ r=some i/\v=.map (some i.bl)
 |.fR,v=>v=.nilFunc
 |.fn f first aU,v=>∃bV cs,v=.func (.func f) ⟨bV⟩ ⟨cs⟩/\cf μ first bV/\cf μ aU cs
 |.dh l,v=>∃i,μ l=some i/\v=.func (.yield i.bl) ⟨[]⟩ ⟨[]⟩
 |.e1,v=>v=.nilIface
 |.iface t x,v=>∃y,v=.iface t y/\bm μ x y
 |.agg cs,v=>∃l,v=.agg ⟨l⟩/\cf μ cs l
 |.aQ vs,v=>∃l,v=.tuple ⟨l⟩/\cf μ vs l
def cf(μ:bq):List I->List Value->Prop
 |[],l=>l=[]
 |a::as,l=>∃v vs,l=v::vs/\bm μ a v/\cf μ as vs
end
mutual
theorem bm.mono{μ aX:bq}(hle:e8 μ aX):∀(a:I) (v:Value),bm μ a v->bm aX a v
 |.bad,_,_=>trivial
 |.bool _,_,h=>h
 |.int _ _,_,h=>h
 |.str _,_,h=>h
 |.bb,_,h=>h
 |.ptr b off,_,⟨i,h,e⟩=>⟨i,hle _ _ h,e⟩
 |.a0,_,h=>h
 |.slice b off len cap,_,⟨i,h,e⟩=>⟨i,hle _ _ h,e⟩
 |.h4,_,h=>h
 |.map r,_,⟨i,h,e⟩=>⟨i,hle _ _ h,e⟩
 |.fR,_,h=>h
 |.fn f first aU,_,⟨bV,cs,e,ab,ad⟩=>⟨bV,cs,e,cf.mono hle _ _ ab,cf.mono hle _ _ ad⟩
 |.dh l,_,⟨i,h,e⟩=>⟨i,hle _ _ h,e⟩
 |.e1,_,h=>h
 |.iface t x,_,⟨y,e,h⟩=>⟨y,e,bm.mono hle _ _ h⟩
 |.agg cs,_,⟨l,e,h⟩=>⟨l,e,cf.mono hle _ _ h⟩
 |.aQ cs,_,⟨l,e,h⟩=>⟨l,e,cf.mono hle _ _ h⟩
theorem cf.mono{μ aX:bq}(hle:e8 μ aX):∀(as:List I) (vs:List Value),cf μ as vs->cf aX as vs
 |[],_,h=>h
 |a::as,_,⟨v,vs,e,ab,ad⟩=>⟨v,vs,e,bm.mono hle _ _ ab,cf.mono hle _ _ ad⟩
end
mutual
theorem j9(μ:bq):∀v:Value,bm μ (n7 v) v
 |.bool b=>rfl
 |.int k n=>rfl
 |.string s=>⟨s,rfl,rfl⟩
 |.pointer none=>rfl
 |.pointer (some _)=>trivial
 |.slice none 0 0=>rfl
 |.slice none 0 (_+1)=>trivial
 |.slice none (_+1) _=>trivial
 |.slice (some _) _ _=>trivial
 |.map none=>rfl
 |.map (some _)=>trivial
 |.nilFunc=>rfl
 |.nilIface=>rfl
 |.agg ⟨cs⟩=>⟨cs,rfl,CV μ cs⟩
 |.tuple ⟨cs⟩=>⟨cs,rfl,CV μ cs⟩
 |.float _ _=>trivial
 |.complex _ _ _=>trivial
 |.chan _=>trivial
 |.func _ _ _=>trivial
 |.iface _ _=>trivial
theorem CV(μ:bq):∀vs:List Value,cf μ (zX vs) vs
 |[]=>rfl
 |v::vs=>⟨v,vs,rfl,j9 μ v,CV μ vs⟩
end
theorem cf.length{μ:bq}:∀{as:List I} {vs:List Value},cf μ as vs->as.length=vs.length
 |[],_,h=>by cases h;rfl
 |a::as,_,⟨v,vs,e,_,ad⟩=>by subst e;simp[cf.length ad]
theorem cf.append{μ:bq}:∀{as bs:List I} {vs us:List Value},cf μ as vs->cf μ bs us->cf μ (as++bs) (vs++us)
 |[],_,_,_,h,an=>by cases h;exact an
 |a::as,_,_,_,⟨v,vs,e,ab,ad⟩,an=>by subst e;exact⟨v,vs++_,rfl,ab,cf.append ad an⟩
theorem cf.get{μ:bq}:∀{as:List I} {vs:List Value} (_:cf μ as vs) {j:Nat} {a:I},as[j]? =some a->∃v,vs[j]? =some v/\bm μ a v
 |[],_,_,j,a,h=>by simp at h
 |x::as,_,⟨v,vs,e,ab,ad⟩,0,a,h=>by
  subst e;simp at h;subst h;exact⟨v,rfl,ab⟩
 |x::as,_,⟨v,vs,e,ab,ad⟩,j+1,a,h=>by
  subst e;simp at h;simpa using cf.get ad h
theorem cf.xj{μ:bq}:∀{as:List I} {vs:List Value},as.length=vs.length->(∀(j:Nat) (a:I),as[j]? =some a->∃v,vs[j]? =some v/\bm μ a v)->cf μ as vs
 |[],[],_,_=>rfl
 |[],_::_,h,_=>by simp at h
 |_::_,[],h,_=>by simp at h
 |a::as,v::vs,h,ak=>by
  refine⟨v,vs,rfl,?_,cf.xj (by simpa using h) λj x aa=>?_⟩
  · obtain⟨u,hu,r⟩:=ak 0 a rfl
    simp at hu;subst hu;exact r
  · simpa using ak (j+1) x (by simpa using aa)
theorem cf.map{μ:bq}{s0:Type}(g:s0->I)(cy:s0->Value)(h:∀x,bm μ (g x) (cy x)):∀l:List s0,cf μ (l.map g) (l.map cy)
 |[]=>rfl
 |x::l=>⟨_,_,rfl,h x,cf.map g cy h l⟩
theorem bm.cells{μ:bq}{a:I}{v:Value}(h:bm μ a v)(ae:a≠ .bad):cf μ a.cells v.cells.toList:=by
 cases a with
 |bad=>exact absurd rfl ae
 |agg cs=>obtain⟨l,rfl,aw⟩:=h;exact aw
 |aQ vs=>obtain⟨l,rfl,aw⟩:=h;exact⟨_,_,rfl,⟨l,rfl,aw⟩,rfl⟩
 |bool b=>cases h;exact⟨_,_,rfl,rfl,rfl⟩
 |int k n=>cases h;exact⟨_,_,rfl,rfl,rfl⟩
 |str s=>obtain⟨t,rfl,e⟩:=h;exact⟨_,_,rfl,⟨t,rfl,e⟩,rfl⟩
 |bb=>cases h;exact⟨_,_,rfl,rfl,rfl⟩
 |ptr b off=>obtain⟨i,e,rfl⟩:=h;exact⟨_,_,rfl,⟨i,e,rfl⟩,rfl⟩
 |a0=>cases h;exact⟨_,_,rfl,rfl,rfl⟩
 |slice b off len cap=>
  obtain⟨i,e,ag⟩:=h
  have:v.cells=#[v]:=by
   cases cap with
   |exact c=>cases ag;rfl
   |a1 gF=>obtain⟨c,rfl,_⟩:=ag;rfl
   |dead=>obtain⟨_,a,c,rfl⟩:=ag;rfl
  rw[this];exact⟨_,_,rfl,⟨i,e,ag⟩,rfl⟩
 |h4=>cases h;exact⟨_,_,rfl,rfl,rfl⟩
 |map r=>obtain⟨i,e,rfl⟩:=h;exact⟨_,_,rfl,⟨i,e,rfl⟩,rfl⟩
 |fR=>cases h;exact⟨_,_,rfl,rfl,rfl⟩
 |fn f a b=>obtain⟨bV,cs,rfl,ab,ad⟩:=h;exact⟨_,_,rfl,⟨bV,cs,rfl,ab,ad⟩,rfl⟩
 |dh l=>obtain⟨i,e,rfl⟩:=h;exact⟨_,_,rfl,⟨i,e,rfl⟩,rfl⟩
 |e1=>cases h;exact⟨_,_,rfl,rfl,rfl⟩
 |iface t x=>obtain⟨y,rfl,aS⟩:=h;exact⟨_,_,rfl,⟨y,rfl,aS⟩,rfl⟩
theorem bm.xk{μ:bq}{a:I}{v:Value}(h:bm μ a v)(ag:a.cT=true):v.oneCell'=true:=by
 cases a with
 |bad=>simp[I.cT] at ag
 |agg cs=>simp[I.cT] at ag
 |aQ vs=>simp[I.cT] at ag
 |bool b=>cases h;rfl
 |int k n=>cases h;rfl
 |str s=>obtain⟨t,rfl,e⟩:=h;rfl
 |bb=>cases h;rfl
 |ptr b off=>obtain⟨i,e,rfl⟩:=h;rfl
 |a0=>cases h;rfl
 |slice b off len cap=>
  obtain⟨i,e,ag⟩:=h
  cases cap with
  |exact c=>cases ag;rfl
  |a1 gF=>obtain⟨c,rfl,_⟩:=ag;rfl
  |dead=>obtain⟨_,a,c,rfl⟩:=ag;rfl
 |h4=>cases h;rfl
 |map r=>obtain⟨i,e,rfl⟩:=h;rfl
 |fR=>cases h;rfl
 |fn f a b=>obtain⟨bV,cs,rfl,ab,ad⟩:=h;rfl
 |dh l=>obtain⟨i,e,rfl⟩:=h;rfl
 |e1=>cases h;rfl
 |iface t x=>obtain⟨y,rfl,aS⟩:=h;rfl
def iE(need:Nat)(μ:bq)(r:aY)(cg:Array Value):Prop:=∀t,Nat.testBit need t=true->bm μ (r.get (g2 t)) (cg.getD t undef)
theorem iE.mono{need:Nat}{μ aX:bq}{r:aY}{cg:Array Value}(hle:e8 μ aX)(h:iE need μ r cg):iE need aX r cg:=λt ba=>(h t ba).mono hle
inductive s3(μ:bq):bU->Deferred->Prop where
 |call (f:Nat) (args:List I) (cap vs:List Value) (h:cf μ args (vs++cap)):s3 μ (.call f args) {target:=.fn (.func f) ⟨cap⟩,args:=⟨vs⟩}
 |collected (r:Nat) (i:eV) (h:μ r=some i):s3 μ (.collected r) {target:=.collected i.bl,args:=#[]}
theorem s3.mono{μ aX:bq}(hle:e8 μ aX){a:bU}{d:Deferred}(h:s3 μ a d):s3 aX a d:=by
 cases h with
 |call f args cap vs h=>exact .call f args cap vs (h.mono hle)
 |collected r i h=>exact .collected r i (hle _ _ h)
def gq(μ:bq):List bU->List Deferred->Prop
 |[],l=>l=[]
 |a::as,l=>∃d ds,l=d::ds/\s3 μ a d/\gq μ as ds
theorem gq.mono{μ aX:bq}(hle:e8 μ aX):∀{as:List bU} {ds:List Deferred},gq μ as ds->gq aX as ds
 |[],_,h=>h
 |_::_,_,⟨d,ds,e,ab,ad⟩=>⟨d,ds,e,ab.mono hle,gq.mono hle ad⟩
theorem gq.append{μ:bq}:∀{as bs:List bU} {ds es:List Deferred},gq μ as ds->gq μ bs es->gq μ (as++bs) (ds++es)
 |[],_,_,_,h,an=>by cases h;exact an
 |_::_,_,_,_,⟨d,ds,e,ab,ad⟩,an=>by subst e;exact⟨d,ds++_,rfl,ab,gq.append ad an⟩
def rm(μ:bq)(e:dN)(m:MapEntry):Prop:=bm μ e.key m.key/\bm μ e.val m.val/\e.born=m.born
def fW(μ:bq):List dN->List MapEntry->Prop
 |[],l=>l=[]
 |e::es,l=>∃m ms,l=m::ms/\rm μ e m/\fW μ es ms
theorem rm.mono{μ aX:bq}(hle:e8 μ aX){e:dN}{m:MapEntry}(h:rm μ e m):rm aX e m:=⟨h.1.mono hle,h.2.1.mono hle,h.2.2⟩
theorem fW.mono{μ aX:bq}(hle:e8 μ aX):∀{es:List dN} {ms:List MapEntry},fW μ es ms->fW aX es ms
 |[],_,h=>h
 |_::_,_,⟨m,ms,e,ab,ad⟩=>⟨m,ms,e,ab.mono hle,fW.mono hle ad⟩
def z8(μ:bq)(cs:List I)(c:Array Value)(base:Nat):Prop:=∀(j:Nat) (v:I),cs[j]? =some v->∃u,c[base+j]? =some u/\bm μ v u
def HE(k:gM)(cs:List I)(i:eV)(aO af gr gu:Nat):Prop:=match k with
 |.own=>i.base=0/\i.size=cs.length/\gr=aO/\gu=af
 |.a1=>cs.length<=i.size/\∀j,j<i.size->gr<=i.base+j->i.base+j<gu->aO<=j/\j<af
 |.ro=>True
 |.fz=>True
def ph(μ:bq)(o:df)(i:eV)(w:World):Prop:=match o with
 |.cells cs el k aO af=>∃c gr gu,w.heap[i.bl]? =some (.cells c el (gr,gu))/\z8 μ cs c i.base/\i.base+i.size=c.size/\HE k cs i aO af gr gu
 |.map es clock=>∃ents,w.heap[i.bl]? =some (.map ⟨ents⟩ clock)/\fW μ es ents
 |.q9 s pos=>i.base=0/\∃full,w.heap[i.bl]? =some (.stringIter full pos)/\full.data.toList.drop pos=s
 |.mapIter none since seen last=>i.base=0/\w.heap[i.bl]? =some (.mapIter none since ⟨seen⟩ last)
 |.mapIter (some m) since seen last=>i.base=0/\∃j,μ m=some j/\w.heap[i.bl]? =some (.mapIter (some j.bl) since ⟨seen⟩ last)
 |.loop st fS need my params as cn eL=>∃cg hN fn,μ eL=some hN/\w.heap[i.bl]? =some (.loop {state:=st,pending:=fS,fn:=fn,tmps:=cg,params:=⟨params⟩,assign:=as,body:=cn,defers:=hN.bl})/\iE need μ my cg/\hA cg.size as=true/\hA cg.size cn=true/\∀t∈params,t<cg.size
 |.defrd none=>w.heap[i.bl]? =some (.deferred none)
 |.defrd (some ds)=>∃l,w.heap[i.bl]? =some (.deferred (some l))/\gq μ ds l
 |.raw o=>i.base=0/\w.heap[i.bl]? =some o
theorem ph.mono{μ aX:bq}(hle:e8 μ aX){o:df}{i:eV}{w w':World}(hw:w'.heap[i.bl]? =w.heap[i.bl]?)(h:ph μ o i w):ph aX o i w':=by
 cases o with
 |cells cs el k aO af=>
  obtain⟨c,gr,gu,ab,ad,ar⟩:=h
  exact⟨c,gr,gu,hw.trans ab,λj v e=>let⟨u,hu,r⟩:=ad j v e;⟨u,hu,r.mono hle⟩,ar⟩
 |map es clock=>obtain⟨ents,ab,ad⟩:=h;exact⟨ents,hw.trans ab,ad.mono hle⟩
 |q9 s pos=>obtain⟨h0,full,ab,ad⟩:=h;exact⟨h0,full,hw.trans ab,ad⟩
 |mapIter m since seen last=>
  cases m with
  |none=>exact⟨h.1,hw.trans h.2⟩
  |some m=>obtain⟨h0,j,ab,ad⟩:=h;exact⟨h0,j,hle _ _ ab,hw.trans ad⟩
 |loop st fS fn my params as cn eL=>obtain⟨cg,hN,CW,ab,ad,ar,aG⟩:=h;exact⟨cg,hN,CW,hle _ _ ab,hw.trans ad,ar.mono hle,aG⟩
 |defrd calls=>
  cases calls with
  |none=>exact hw.trans h
  |some ds=>obtain⟨l,ab,ad⟩:=h;exact⟨l,hw.trans ab,ad.mono hle⟩
 |raw o=>exact⟨h.1,hw.trans h.2⟩
def df.pj:df->Bool
 |.cells _ _ .ro _ _=>true
 |.raw _=>true
 |_=>false
structure bt(μ:bq)(H:J)(w:World):Prop where
 rel:∀b o i,H.get b=some o->μ b=some i->ph μ o i w
 inj:∀b c i j,H.get b≠none->(∃o,H.get c=some o/\o.pj=false)->μ b=some i->μ c=some j->i.bl=j.bl->b=c
 lt:∀b i,μ b=some i->b<H.n/\i.bl<w.heap.size
 bound:∀b,H.n<=b->H.get b=none
structure cb(μ:bq)(H:J)(w:World)(aX:bq)(aW:J)(w':World):Prop where
 le:e8 μ aX
 size:w.heap.size<=w'.heap.size
 n:H.n<=aW.n
 live:∀b,b<H.n->aW.get b≠none->H.get b≠none
 idle:∀b,b<H.n->μ b=none->aW.get b=H.get b
 old:∀r,r<w.heap.size->(∀b i,H.get b≠none->μ b=some i->i.bl≠r)->w'.heap[r]? =w.heap[r]?
 new:∀b i,μ b=none->aX b=some i->H.n<=b/\(w.heap.size<=i.bl\/∃c o j,H.get c=some o/\o.pj=false/\μ c=some j/\j.bl=i.bl)
 ro:∀b o i,H.get b=some o->o.pj=true->μ b=some i->aW.get b=some o/\w'.heap[i.bl]? =w.heap[i.bl]?
 os:w'.os=w.os
 out:w'.output=w.output
 tape:w'.tape=w.tape
 drawn:w.drawn<=w'.drawn
theorem cb.refl(μ:bq)(H:J)(w:World):cb μ H w μ H w where
 le:=e8.refl μ
 size:=Nat.le_refl _
 n:=Nat.le_refl _
 live:=λ_ _ h=>h
 idle:=λ_ _ _=>rfl
 old:=λ_ _ _=>rfl
 new:=λb i h an=>by rw[h] at an;cases an
 ro:=λ_ _ _ h _ _=>⟨h,rfl⟩
 os:=rfl
 out:=rfl
 tape:=rfl
 drawn:=Nat.le_refl _
theorem cb.trans{μ hO uZ:bq}{H H1 aR:J}{w cN cK:World}(ak:bt μ H w)(iT:bt hO H1 cN)(h:cb μ H w hO H1 cN)(an:cb hO H1 cN uZ aR cK):cb μ H w uZ aR cK where
 le:=h.le.trans an.le
 size:=Nat.le_trans h.size an.size
 n:=Nat.le_trans h.n an.n
 live:=λb ae aw=>h.live b ae (an.live b (Nat.lt_of_lt_of_le ae h.n) aw)
 idle:=λb ae hm=>by
  rw[<-h.idle b ae hm]
  refine an.idle b (Nat.lt_of_lt_of_le ae h.n) ?_
  cases ab:hO b with
  |none=>rfl
  |some i=>exact absurd (h.new b i hm ab).1 (Nat.not_le.2 ae)
 old:=λr aj aN=>by
  rw[an.old r (Nat.lt_of_lt_of_le aj h.size),h.old r aj aN]
  intro b i aw hm he
  cases z9:μ b with
  |some j=>
   have:=h.le b j z9
   rw[hm] at this;cases this
   exact aN b i (h.live b (ak.lt b i z9).1 aw) z9 he
  |none=>
   obtain⟨_,af|⟨c,o,j,ag,_,aJ,ob⟩⟩:=h.new b i z9 hm
   · omega
   · exact aN c j (by rw[ag];simp) aJ (ob.trans he)
 new:=λb i ae fB=>by
  cases ab:hO b with
  |some j=>
   have:=an.le b j ab
   rw[fB] at this;cases this
   exact h.new b i ae ab
  |none=>
   obtain⟨aN,af|⟨c,o,j,ag,hi,aJ,ob⟩⟩:=an.new b i ab fB
   · exact⟨Nat.le_trans h.n aN,.inl (Nat.le_trans h.size af)⟩
   · refine⟨Nat.le_trans h.n aN,?_⟩
     cases h0:μ c with
     |some jU=>
      have:=h.le c jU h0
      rw[aJ] at this;cases this
      have u0:H.get c≠none:=h.live c (ak.lt c j h0).1 (by rw[ag];simp)
      cases al:H.get c with
      |none=>exact absurd al u0
      |some CX=>
       cases z_:CX.pj with
       |false=>exact .inr ⟨c,CX,j,al,z_,h0,ob⟩
       |true=>
        have:=(h.ro c CX j al z_ h0).1
        rw[ag] at this;cases this
        rw[hi] at z_;cases z_
     |none=>
      obtain⟨_,af|⟨c',o',jU,pk,Pm,gv,Pn⟩⟩:=h.new c j h0 aJ
      · exact .inl (ob▸af)
      · exact .inr ⟨c',o',jU,pk,Pm,gv,Pn.trans ob⟩
 ro:=λb o i ae aj af=>by
  obtain⟨ab,ad⟩:=h.ro b o i ae aj af
  obtain⟨ar,aG⟩:=an.ro b o i ab aj (h.le b i af)
  exact⟨ar,aG.trans ad⟩
 os:=an.os.trans h.os
 out:=an.out.trans h.out
 tape:=an.tape.trans h.tape
 drawn:=Nat.le_trans h.drawn an.drawn
theorem bt.of_heap{μ:bq}{H:J}{w w':World}(h:bt μ H w)(he:w'.heap=w.heap):bt μ H w' where
 rel:=λb o i ae af=>(h.rel b o i ae af).mono (e8.refl μ) (by rw[he])
 inj:=h.inj
 lt:=λb i af=>by rw[he];exact h.lt b i af
 bound:=h.bound
theorem cb.of_heap{μ:bq}{H:J}{w w':World}(he:w'.heap=w.heap)(a4:w'.os=w.os)(aK:w'.output=w.output)(ba:w'.tape=w.tape)(ao:w.drawn<=w'.drawn:=by first|exact Nat.le_refl _|exact Nat.le_succ _|assumption):cb μ H w μ H w' where
 le:=e8.refl μ
 size:=by rw[he];exact Nat.le_refl _
 n:=Nat.le_refl _
 live:=λ_ _ h=>h
 idle:=λ_ _ _=>rfl
 old:=λ_ _ _=>by rw[he]
 new:=λb i h an=>by rw[h] at an;cases an
 ro:=λ_ _ _ h _ _=>⟨h,by rw[he]⟩
 os:=a4
 out:=aK
 tape:=ba
 drawn:=ao
def fr(μ:bq)(b:Nat)(i:eV):bq:=λc=>if c=b then some i else μ c
theorem gw(μ:bq)(b:Nat)(i:eV):fr μ b i b=some i:=by simp[fr]
theorem hj(μ:bq){b c:Nat}(i:eV)(h:c≠b):fr μ b i c=μ c:=by simp[fr,h]
theorem bt.fresh{μ:bq}{H:J}{w:World}(h:bt μ H w):μ H.n=none:=by
 cases e:μ H.n with
 |none=>rfl
 |some i=>exact absurd (h.lt _ _ e).1 (Nat.lt_irrefl _)
theorem bt.oc{μ:bq}{H:J}{w:World}(h:bt μ H w)(i:eV):e8 μ (fr μ H.n i):=λb j e=>by
 rw[hj];exact e
 intro ae;subst ae;rw[h.fresh] at e;cases e
theorem bt.alloc{μ:bq}{H:J}{w:World}(h:bt μ H w)(o:df)(x:Obj)(sz:Nat)
  (aj:ph (fr μ H.n ⟨w.heap.size,0,sz⟩) o ⟨w.heap.size,0,sz⟩ (w.alloc x)):
  bt (fr μ H.n ⟨w.heap.size,0,sz⟩) (H.push o) (w.alloc x)/\cb μ H w (fr μ H.n ⟨w.heap.size,0,sz⟩) (H.push o) (w.alloc x):=by
 have hle:=h.oc ⟨w.heap.size,0,sz⟩
 have hold:∀r,r<w.heap.size->(w.alloc x).heap[r]? =w.heap[r]? :=λr aj=>by
  simp only[World.alloc,Array.getElem?_push];rw[if_neg (by omega)]
 constructor
 · refine⟨λb cw i ae af=>?_,λb c i j ae ag af aJ e=>?_,λb i af=>?_,λb ae=>?_⟩
   · rw[J.gp] at ae
     by_cases e:b=H.n
     · rw[if_pos e] at ae;subst e;cases ae
       rw[gw] at af;cases af
       exact aj
     · rw[if_neg e] at ae;rw[hj _ _ e] at af
       exact(h.rel b cw i ae af).mono hle (hold _ (h.lt b i af).2)
   · by_cases aA:b=H.n
     · by_cases ay:c=H.n
       · rw[aA,ay]
       · subst aA;rw[gw] at af;cases af
         rw[hj _ _ ay] at aJ
         have:=(h.lt c j aJ).2
         simp only at e;omega
     · by_cases ay:c=H.n
       · subst ay;rw[gw] at aJ;cases aJ
         rw[hj _ _ aA] at af
         have:=(h.lt b i af).2
         simp only at e;omega
       · rw[hj _ _ aA] at af;rw[hj _ _ ay] at aJ
         rw[J.gp,if_neg aA] at ae
         rw[J.gp,if_neg ay] at ag
         exact h.inj b c i j ae ag af aJ e
   · by_cases e:b=H.n
     · subst e;rw[gw] at af;cases af;simp
     · rw[hj _ _ e] at af
       have:=h.lt b i af
       simp only[J.rl,World.size_alloc];omega
   · simp only[J.rl] at ae
     rw[J.gp,if_neg (by omega)];exact h.bound b (by omega)
 · refine⟨hle,by simp,by simp,λb ae aw=>?_,λb ae _=>(by rw[J.gp,if_neg (by omega)]),λr aj _=>hold r aj,λb i ae fB=>?_,λb cw i ae _ af=>?_,rfl,rfl,rfl,Nat.le_refl _⟩
   · rw[J.gp,if_neg (by omega)] at aw;exact aw
   · by_cases e:b=H.n
     · subst e;rw[gw] at fB;cases fB;exact⟨Nat.le_refl _,.inl (Nat.le_refl _)⟩
     · rw[hj _ _ e,ae] at fB;cases fB
   · have:=h.lt b i af
     rw[J.gp,if_neg (by omega)]
     exact⟨ae,hold _ this.2⟩
theorem bt.update{μ:bq}{H:J}{w w':World}(h:bt μ H w){b:Nat}{o o':df}{i:eV}(ae:H.get b=some o)(hi:o.pj=false)(af:μ b=some i)
  (hs:w'.heap.size=w.heap.size)(a4:∀r,r≠i.bl->w'.heap[r]? =w.heap[r]?)(xl:w'.os=w.os)(CY:w'.output=w.output)(CZ:w'.tape=w.tape)(aj:ph μ o' i w')(hdr:w.drawn<=w'.drawn:=by first|exact Nat.le_refl _|assumption):
  bt μ (H.set b (some o')) w'/\cb μ H w μ (H.set b (some o')) w':=by
 have u0:H.get b≠none:=by rw[ae];simp
 have qk:∀c,(H.set b (some o')).get c≠none->H.get c≠none:=λc ag=>by
  rw[J.cV] at ag
  by_cases e:c=b
  · subst e;exact u0
  · rw[if_neg e] at ag;exact ag
 constructor
 · refine⟨λc fG j ag aJ=>?_,λc d j k ag ao=>h.inj c d j k (qk c ag) (by
     obtain⟨x,aa,pn⟩:=ao
     rw[J.cV] at aa
     by_cases e:d=b
     · subst e;exact⟨o,ae,hi⟩
     · rw[if_neg e] at aa;exact⟨x,aa,pn⟩),λc j aJ=>by rw[hs];exact h.lt c j aJ,λc ag=>?_⟩
   · rw[J.cV] at ag
     by_cases e:c=b
     · subst e;rw[if_pos rfl] at ag;cases ag
       rw[af] at aJ;cases aJ;exact aj
     · rw[if_neg e] at ag
       refine(h.rel c fG j ag aJ).mono (e8.refl μ) (a4 _ λcF=>e (h.inj c b j i (by rw[ag];simp) ⟨o,ae,hi⟩ aJ af cF))
   · rw[J.cV,if_neg]
     · exact h.bound c ag
     · intro e;subst e;have:=(h.lt c i af).1;simp at ag;omega
 · refine⟨e8.refl μ,by omega,by simp,λc _ ag=>qk c ag,λc _ hm=>(by rw[J.cV,if_neg];intro e;subst e;rw[af] at hm;cases hm),λr aj aN=>a4 r λe=>aN b i u0 af e.symm,λc j ab ad=>(by rw[ab] at ad;cases ad),λc fG j ag rn aJ=>?_,xl,CY,CZ,hdr⟩
   have cS:c≠b:=by intro e;subst e;rw[ae] at ag;cases ag;rw[hi] at rn;cases rn
   refine⟨by rw[J.cV,if_neg cS];exact ag,a4 _ λe=>cS (h.inj c b j i (by rw[ag];simp) ⟨o,ae,hi⟩ aJ af e)⟩
end aP
namespace aP
open Go
theorem add_plain(b o n:Nat):(⟨b,o,none⟩:Addr).add n=⟨b,o+n,none⟩:=by
 unfold Addr.add
 by_cases h:n=0
 · simp[h]
 · simp[h]
theorem ql{α:Type}:∀(n:Nat) (l:List α),nth n l=l[n]?
 |0,[]=>rfl
 |_+1,[]=>rfl
 |0,_::_=>rfl
 |n+1,_::l=>by simpa[nth] using ql n l
theorem nr{α:Type}:∀(n:Nat) (l:List α),jD n l=l.drop n
 |0,l=>by simp[jD]
 |_+1,[]=>by simp[jD]
 |n+1,_::l=>by simpa[jD] using nr n l
theorem s4:∀(n:Nat) (l r:List I),takeN n l=some r->n<=l.length/\r=l.take n
 |0,l,r,h=>by simp[takeN] at h;subst h;simp
 |_+1,[],r,h=>by simp[takeN] at h
 |n+1,a::l,r,h=>by
  simp only[takeN] at h
  cases e:takeN n l with
  |none=>simp[e] at h
  |some r'=>
   simp[e] at h;subst h
   obtain⟨ab,ad⟩:=s4 n l r' e
   simp[ad];omega
theorem Aa:∀(n:Nat) (vs cs r:List I),fT n vs cs=some r->
  r.length=cs.length/\(vs≠[]->n+vs.length<=cs.length)/\(∀v∈vs,v.cT=true)/\∀j,r[j]? =if n<=j/\j<n+vs.length then vs[j-n]? else cs[j]?
 |0,[],cs,r,h=>by
  simp[fT] at h;subst h
  refine⟨rfl,λh=>absurd rfl h,λv aC=>(by cases aC),λj=>by rw[if_neg (by simp)]⟩
 |0,_::_,[],r,h=>by simp[fT] at h
 |0,v::vs,c::cs,r,h=>by
  simp only[fT] at h
  cases ag:v.cT with
  |false=>simp[ag] at h
  |true=>
   simp only[ag] at h
   cases e:fT 0 vs cs with
   |none=>simp[e] at h
   |some r'=>
    simp[e] at h;subst h
    obtain⟨ab,ad,ar,aG⟩:=Aa 0 vs cs r' e
    refine⟨by simp[ab],λ_=>?_,λx aa=>?_,λj=>?_⟩
    · cases vs with
      |nil=>simp
      |cons a l=>have:=ad (by simp);simp at this⊢;omega
    · cases aa with
      |head=>exact ag
      |tail _ aa=>exact ar x aa
    · cases j with
      |zero=>simp
      |succ j=>simpa using aG j
 |n+1,[],cs,r,h=>by
  simp[fT] at h;subst h
  refine⟨rfl,λh=>absurd rfl h,λv aC=>(by cases aC),λj=>by rw[if_neg (by simp)]⟩
 |n+1,_::_,[],r,h=>by simp[fT] at h
 |n+1,v::vs,c::cs,r,h=>by
  simp only[fT] at h
  cases e:fT n (v::vs) cs with
  |none=>simp[e] at h
  |some r'=>
   simp[e] at h;subst h
   obtain⟨ab,ad,ar,aG⟩:=Aa n (v::vs) cs r' e
   refine⟨by simp[ab],λ_=>?_,ar,λj=>?_⟩
   · have:=ad (by simp);simp at this⊢;omega
   · cases j with
     |zero=>simp
     |succ j=>
      have:=aG j
      simp only[List.getElem?_cons_succ,this,List.length_cons]
      have aA:(n+1<=j+1/\j+1<n+1+(vs.length+1))<->(n<=j/\j<n+(vs.length+1)):=by omega
      have ay:j+1-(n+1)=j-n:=by omega
      simp only[aA,ay]
theorem u1{w:World}{bl el gr gu:Nat}{c:Array Value}(h:w.heap[bl]? =some (.cells c el (gr,gu)))(k:Nat):w.cell? ⟨bl,k,none⟩=c[k]? :=by
 simp[World.cell?,h]
theorem HF{μ:bq}{H:J}{w:World}(ak:bt μ H w){b off:Nat}{i:eV}(af:μ b=some i){cs:List I}{el aO eQ:Nat}{k:gM}(ae:H.get b=some (.cells cs el k aO eQ))
  {v:I}(aC:cs[off]? =some v):∃u,w.cell? ⟨i.bl,i.base+off,none⟩=some u/\bm μ v u:=by
 obtain⟨c,gr,gu,ab,ad,_⟩:=ak.rel b _ i ae af
 obtain⟨u,hu,r⟩:=ad off v aC
 exact⟨u,by rw[u1 ab,hu],r⟩
theorem HG{P:Program}{w:World}{a:Addr}{u:Value}(h:w.cell? a=some u):(_root_.Go.load a).run P w=.ok u w:=by
 rw[run_load];simp[h]
theorem Po{P:Program}{μ:bq}{H:J}{w:World}(ak:bt μ H w){b:Nat}{i:eV}(af:μ b=some i){cs:List I}{el aO eQ:Nat}{k:gM}(ae:H.get b=some (.cells cs el k aO eQ))(off:Nat):
  ∀(n s:Nat) (acc:Array Value) (rp:List I),takeN n (jD (off+s) cs)=some rp->
   ∃us:List Value,(loadCellsFrom ⟨i.bl,i.base+off,none⟩ s n acc).run P w=.ok (acc++us.toArray) w/\cf μ rp us:=by
 intro n
 induction n with
 |zero=>
  intro s acc rp h
  simp[takeN] at h;subst h
  exact⟨[],by simp[loadCellsFrom],rfl⟩
 |succ n a7=>
  intro s acc rp h
  rw[nr] at h
  cases ao:cs.drop (off+s) with
  |nil=>rw[ao] at h;simp[takeN] at h
  |cons a l=>
   rw[ao] at h
   simp only[takeN] at h
   cases e:takeN n l with
   |none=>simp[e] at h
   |some r=>
    simp[e] at h;subst h
    have aT:cs[off+s]? =some a:=by
     have:=congrArg (·[0]?) ao
     simpa[List.getElem?_drop] using this
    have aw:l=jD (off+(s+1)) cs:=by
     rw[nr]
     have:=congrArg (List.drop 1) ao
     simp only[List.drop_drop,List.drop_succ_cons,List.drop_zero] at this
     rw[<-this];congr 1
    obtain⟨u,hu,aj⟩:=HF ak af ae aT
    obtain⟨us,ab,ad⟩:=a7 (s+1) (acc.push u) r (by rw[<-aw];exact e)
    refine⟨u::us,?_,⟨u,us,rfl,aj,ad⟩⟩
    have mD:w.cell? ((⟨i.bl,i.base+off,none⟩:Addr).add s)=some u:=by rw[add_plain,Nat.add_assoc];exact hu
    simp only[loadCellsFrom,Sem.run_bind,HG mD,Result.andThen_ok,ab]
    congr 1
    apply Array.ext'
    simp
theorem rq{P:Program}{μ:bq}{H:J}{w:World}(ak:bt μ H w){b off n:Nat}{i:eV}(af:μ b=some i){rp:List I}(h:loadCells H b off n=some rp):
  ∃us:List Value,(_root_.Go.loadCells ⟨i.bl,i.base+off,none⟩ n).run P w=.ok ⟨us⟩ w/\cf μ rp us:=by
 unfold loadCells at h
 split at h
 · rename_i cs el k aO eQ ae
   obtain⟨us,ab,ad⟩:=Po (P:=P) ak af ae off n 0 #[] rp h
   exact⟨us,by simpa[_root_.Go.loadCells] using ab,ad⟩
 · cases h
theorem C0{P:Program}{μ:bq}{H:J}{w:World}(ak:bt μ H w){b off:Nat}{i:eV}(af:μ b=some i){v:I}(h:au H b off=some v):
  ∃u,(_root_.Go.load ⟨i.bl,i.base+off,none⟩).run P w=.ok u w/\bm μ v u:=by
 unfold au at h
 split at h
 · rename_i cs el k aO eQ ae
   rw[ql] at h
   obtain⟨u,hu,aj⟩:=HF ak af ae h
   exact⟨u,HG hu,aj⟩
 · cases h
theorem HH(P:Program)(bl k:Nat):∀(vs:List Value) (w:World) (i:Nat) (c:Array Value) (el gr gu:Nat),w.heap[bl]? =some (.cells c el (gr,gu))->
  (∀v∈vs,v.oneCell'=true)->k+i+vs.length<=c.size->(∀j,k+i<=j->j<k+i+vs.length->¬(gr<=j/\j<gu))->
  ∃w' c',(_root_.Go.storeCells ⟨bl,k,none⟩ vs i).run P w=.ok () w'/\w'.heap[bl]? =some (.cells c' el (gr,gu))/\(∀r,r≠bl->w'.heap[r]? =w.heap[r]?)/\w'.heap.size=w.heap.size/\
   w'.os=w.os/\w'.output=w.output/\(w'.tape=w.tape/\w'.drawn=w.drawn)/\c'.size=c.size/\∀j,c'[j]? =if k+i<=j/\j<k+i+vs.length then vs[j-(k+i)]? else c[j]? :=by
 intro vs
 induction vs with
 |nil=>
  intro w i c el gr gu ae _ _ _
  exact⟨w,c,by simp[_root_.Go.storeCells],ae,λ_ _=>rfl,rfl,rfl,rfl,⟨rfl,rfl⟩,rfl,λj=>by rw[if_neg (by simp)]⟩
 |cons v vs a7=>
  intro w i c el gr gu ae ag hs hf
  simp only[List.length_cons] at hs hf
  have cd:k+i<c.size:=by omega
  have lR:w.cell? ⟨bl,k+i,none⟩=some c[k+i]:=by rw[u1 ae];exact Array.getElem?_eq_getElem cd
  have Pp:w.frozen? ⟨bl,k+i,none⟩=false:=by
   have:=hf (k+i) (by omega) (by omega)
   simp only[World.frozen?,ae]
   cases ab:decide (gr<=k+i) with
   |false=>rfl
   |true=>
    cases ad:decide (k+i<gu) with
    |false=>rfl
    |true=>exact absurd ⟨of_decide_eq_true ab,of_decide_eq_true ad⟩ this
  have j_:(w.setCell ⟨bl,k+i,none⟩ v).heap[bl]? =some (.cells (c.setIfInBounds (k+i) v) el (gr,gu)):=by
   simp[World.setCell,Array.getElem?_modify,ae]
  obtain⟨w',c',ab,ad,ar,aG,bJ,cu,dg,hB,g3⟩:=a7 (w.setCell ⟨bl,k+i,none⟩ v) (i+1) (c.setIfInBounds (k+i) v) el gr gu j_ (λx aa=>ag x (.tail _ aa)) (by simp;omega)
   (λj ac2 po=>hf j (by omega) (by omega))
  refine⟨w',c',?_,ad,λr aj=>?_,?_,bJ,cu,dg,by simpa using hB,λj=>?_⟩
  · simp only[_root_.Go.storeCells,Sem.run_bind,add_plain,run_store P w ⟨bl,k+i,none⟩ v .plain (ag v (.head _)),lR,Pp,Bool.false_eq_true,if_false,Result.andThen_ok,ab]
  · rw[ar r aj];simp only[World.setCell,Array.getElem?_modify]
    rw[if_neg (λe=>aj e.symm)]
  · rw[aG];simp[World.setCell]
  · rw[g3 j]
    by_cases e:j=k+i
    · subst e
      rw[if_neg (by omega),if_pos (by simp),Array.getElem?_setIfInBounds]
      simp[cd]
    · by_cases ay:k+(i+1)<=j/\j<k+(i+1)+vs.length
      · rw[if_pos ay,if_pos (by simp only[List.length_cons];omega)]
        have:j-(k+i)=(j-(k+(i+1)))+1:=by omega
        rw[this];simp
      · rw[if_neg ay,if_neg (by simp only[List.length_cons];omega),Array.getElem?_setIfInBounds]
        rw[if_neg (λcF=>e cF.symm)]
theorem cf.xk{μ:bq}:∀{as:List I} {vs:List Value},cf μ as vs->(∀a∈as,a.cT=true)->∀v∈vs,v.oneCell'=true
 |[],_,h,_=>by cases h;intro v aC;cases aC
 |a::as,_,⟨v,vs,e,ab,ad⟩,ag=>by
  subst e
  intro x aa
  cases aa with
  |head=>exact ab.xk (ag a (.head _))
  |tail _ aa=>exact cf.xk ad (λa aT=>ag a (.tail _ aT)) x aa
theorem Pq{k:gM}{aO af off n:Nat}(hw:kV k aO af off n=true){cs:List I}{i:eV}{gr gu:Nat}(aq:HE k cs i aO af gr gu)(fj:n=0\/off+n<=i.size):
  ∀j,i.base+off<=j->j<i.base+off+n->¬(gr<=j/\j<gu):=by
 intro j ab ad ⟨ar,aG⟩
 cases k with
 |ro=>simp[kV] at hw
 |fz=>simp[kV] at hw
 |own=>
  obtain⟨ae,hs,rfl,rfl⟩:=aq
  simp only[kV,Bool.or_eq_true,Nat.ble_eq] at hw
  omega
 |a1=>
  obtain⟨hs,hf⟩:=aq
  simp only[kV,Bool.or_eq_true,Nat.ble_eq] at hw
  have:=hf (j-i.base) (by omega) (by omega) (by omega)
  omega
theorem xm{P:Program}{μ:bq}{H:J}{w:World}(ak:bt μ H w){b off:Nat}{i:eV}(af:μ b=some i){vs:List I}{us:List Value}(aC:cf μ vs us){aW:J}
  (h:storeCells H b off vs=some aW):
  ∃w',(_root_.Go.storeCells ⟨i.bl,i.base+off,none⟩ us).run P w=.ok () w'/\bt μ aW w'/\cb μ H w μ aW w':=by
 unfold storeCells at h
 split at h
 · rename_i cs el k aO eQ ae
   split at h
   · rename_i hw
     split at h
     · rename_i bO aK
       cases h
       obtain⟨eF,fs,jk,lp⟩:=Aa _ _ _ _ aK
       obtain⟨c,gr,gu,ab,ad,ar,aG⟩:=ak.rel b _ i ae af
       have hlen:=aC.length
       have bx:vs≠[]->off+vs.length<=i.size/\i.base+off+vs.length<=c.size:=λcS=>by
        have:=fs cS
        have rr:=ad (cs.length-1) (cs[cs.length-1]'(by cases vs with|nil=>exact absurd rfl cS|cons a l=>simp at this;omega)) (List.getElem?_eq_getElem _)
        obtain⟨u,hu,_⟩:=rr
        have cd:i.base+(cs.length-1)<c.size:=by
         rcases Nat.lt_or_ge (i.base+(cs.length-1)) c.size with h|h
         · exact h
         · rw[Array.getElem?_eq_none h] at hu;cases hu
        have xn:0<vs.length:=by cases vs with|nil=>exact absurd rfl cS|cons a l=>simp
        cases k with
        |ro=>simp[kV] at hw
        |fz=>simp[kV] at hw
        |own=>obtain⟨cr,cZ,_⟩:=aG;omega
        |a1=>obtain⟨cr,_⟩:=aG;omega
       by_cases cS:vs=[]
       · subst cS
         have:us=[]:=by cases us with|nil=>rfl|cons a l=>simp at hlen
         subst this
         have fC:bO=cs:=by
          apply List.ext_getElem?
          intro j;rw[lp j,if_neg (by simp)]
         subst fC
         obtain⟨r1,r2⟩:=ak.update (w':=w) ae (by cases k<;>first|rfl|simp[kV] at hw) af rfl (λ_ _=>rfl) rfl rfl rfl (ak.rel b _ i ae af)
         exact⟨w,by simp[_root_.Go.storeCells],r1,r2⟩
       · obtain⟨s1,s2⟩:=bx cS
         obtain⟨w',c',aA,ay,bw,eh,fH,gI,gx,g4,gJ⟩:=HH P i.bl (i.base+off) us w 0 c el gr gu ab (aC.xk jk) (by omega)
          (by have:=Pq hw aG (.inr s1);rw[hlen] at this;simpa using this)
         obtain⟨r1,r2⟩:=ak.update (w':=w') (o':=.cells bO el k aO eQ) ae (by cases k<;>first|rfl|simp[kV] at hw) af eh bw fH gI gx.1 (hdr:=Nat.le_of_eq gx.2.symm)
          ⟨c',gr,gu,ay,λj v aJ=>by
           rw[lp j] at aJ
           rw[gJ]
           by_cases aj:off<=j/\j<off+vs.length
           · rw[if_pos aj] at aJ
             rw[if_pos (by omega)]
             have:i.base+j-(i.base+off+0)=j-off:=by omega
             rw[this];exact aC.get aJ
           · rw[if_neg aj] at aJ
             rw[if_neg (by omega)]
             exact ad j v aJ,by omega,by
           cases k with
           |ro=>trivial
           |fz=>trivial
           |own=>obtain⟨cr,cZ,dp⟩:=aG;exact⟨cr,by omega,dp⟩
           |a1=>obtain⟨cr,cZ⟩:=aG;exact⟨by omega,cZ⟩⟩
         exact⟨w',aA,r1,r2⟩
     · cases h
   · cases h
 · cases h
theorem World.heap_alloc_new(w:World)(x:Obj):(w.alloc x).heap[w.heap.size]? =some x:=by unfold World.alloc;simp
theorem Ab{P:Program}{μ:bq}{H:J}{w:World}(ak:bt μ H w){el b:Nat}{cs:List I}{us:List Value}{aW:J}(aC:cf μ cs us)(h:newRow H el cs=some (b,aW)):
  (_root_.Go.newRow el ⟨us⟩).run P w=.ok ⟨w.heap.size,0,none⟩ (w.alloc (.cells ⟨us⟩ el))/\b=H.n/\fr μ H.n ⟨w.heap.size,0,us.length⟩ b=some ⟨w.heap.size,0,us.length⟩/\
   bt (fr μ H.n ⟨w.heap.size,0,us.length⟩) aW (w.alloc (.cells ⟨us⟩ el))/\cb μ H w (fr μ H.n ⟨w.heap.size,0,us.length⟩) aW (w.alloc (.cells ⟨us⟩ el)):=by
 unfold newRow at h
 split at h
 · cases h
   have hle:=ak.oc ⟨w.heap.size,0,us.length⟩
   obtain⟨r1,r2⟩:=ak.alloc (.cells cs el .own 0 0) (.cells ⟨us⟩ el) us.length
    ⟨⟨us⟩,0,0,by exact World.heap_alloc_new _ _,λj v aJ=>by
      obtain⟨u,hu,aj⟩:=aC.get aJ
      exact⟨u,by simpa using hu,aj.mono hle⟩,by simp,rfl,aC.length.symm,rfl,rfl⟩
   exact⟨by simp[_root_.Go.newRow],rfl,gw _ _ _,r1,r2⟩
 · cases h
section types
variable {P:Program} {w:World} {t:TypeId}
theorem run_typeInfo{i:TypeInfo}(h:P.info? t=some i):(typeInfo t).run P w=.ok i w:=by simp[typeInfo,h]
theorem bX{d:TypeDesc}(h:P.underlying t=some d):(underlying t).run P w=.ok d w:=by simp[underlying,h]
theorem run_sizeOf{n:Nat}(h:dn P t=some n):(_root_.Go.sizeOf t).run P w=Result.ok n w:=by
 unfold dn at h
 split at h
 · rename_i i af;cases h;simp[_root_.Go.sizeOf,run_typeInfo af]
 · cases h
theorem u2{b:Bool}(h:qc P t=some b):(isAgg t).run P w=.ok b w:=by
 unfold qc at h
 cases hu:P.underlying t with
 |none=>rw[hu] at h;cases h
 |some d=>
  rw[hu] at h
  simp only[isAgg,Sem.run_bind,bX hu,Result.andThen_ok]
  cases d<;>cases h<;>rfl
theorem lS{z:I}(h:ei P t=some z):∃v,(zeroValue t).run P w=.ok v w/\z=n7 v/\z≠ .bad:=by
 unfold ei at h
 split at h
 · rename_i i af
   split at h
   · rename_i v aC
     split at h
     · cases h
     · rename_i a cS
       cases h
       exact⟨v,by simp[zeroValue,run_typeInfo af,aC],rfl,cS⟩
   · cases h
 · cases h
end types
end aP
namespace aP
open Go
def eW(P:Program)(μ:bq)(H:J)(w:World)(s:Sem Value)(v:I)(aW:J):Prop:=
 ∃aX w' v',s.run P w=.ok v' w'/\bm aX v v'/\bt aX aW w'/\cb μ H w aX aW w'
theorem eW.same{P:Program}{μ:bq}{H:J}{w:World}{s:Sem Value}{v:I}{v':Value}(ak:bt μ H w)(hs:s.run P w=.ok v' w)(aC:bm μ v v'):eW P μ H w s v H:=
 ⟨μ,w,v',hs,aC,ak,cb.refl _ _ _⟩
section
variable {P:Program} {μ:bq} {H:J} {w:World}
theorem Pr(ak:bt μ H w){e:TypeId}{z:I}(a2:ei P e=some z){b:Nat}{aW:J}(aj:newRow H e z.cells=some (b,aW)):
  eW P μ H w (Instr.alloc e true (.tuple #[])) (.ptr b 0) aW:=by
 obtain⟨v,aC,rfl,ae⟩:=lS (w:=w) a2
 have ag:=(j9 μ v).cells ae
 obtain⟨ab,rfl,ad,ar,aG⟩:=Ab (P:=P) ak ag aj
 refine⟨_,_,.pointer (some ⟨w.heap.size,0,none⟩),?_,⟨_,ad,by simp⟩,ar,aG⟩
 simp[Instr.alloc,aC,newVar,ab]
theorem Ps(ak:bt μ H w){e:TypeId}{x:I}{v:Value}(aC:bm μ x v){b:Nat}{aW:J}(aj:newRow H e x.cells=some (b,aW)):
  eW P μ H w (Instr.box e v) (.ptr b 0) aW:=by
 have ae:x≠ .bad:=by intro h;rw[h] at aj;simp[newRow,I.cells,I.cT] at aj
 obtain⟨ab,rfl,ad,ar,aG⟩:=Ab (P:=P) ak (aC.cells ae) aj
 refine⟨_,_,.pointer (some ⟨w.heap.size,0,none⟩),?_,⟨_,ad,by simp⟩,ar,aG⟩
 simp[Instr.box,newVar,ab]
theorem Pt(ak:bt μ H w){t:TypeId}{b off:Nat}{v:Value}(aC:bm μ (.ptr b off) v):
  (∀n cs,qc P t=some true->dn P t=some n->loadCells H b off n=some cs->eW P μ H w (Instr.loadAt t v) (.agg cs) H)/\
  (∀x,qc P t=some false->au H b off=some x->eW P μ H w (Instr.loadAt t v) x H):=by
 obtain⟨i,af,rfl⟩:=aC
 constructor
 · intro n cs aT aN aw
   obtain⟨us,ab,ad⟩:=rq (P:=P) ak af aw
   exact .same ak (v':=.agg ⟨us⟩) (by simp[Instr.loadAt,Instr.sureAddr,loadVar,u2 aT,run_sizeOf aN,ab]) ⟨us,rfl,ad⟩
 · intro x aT aw
   obtain⟨u,ab,ad⟩:=C0 (P:=P) ak af aw
   exact .same ak (v':=u) (by simp only[Instr.loadAt,Instr.sureAddr,loadVar,Sem.run_bind,Sem.run_pure,Result.andThen_ok,u2 aT,Bool.false_eq_true,if_false,ab]) ad
theorem Pu(ak:bt μ H w){t:TypeId}{b off n:Nat}{v u:Value}{x:I}(aC:bm μ (.ptr b off) v)(aa:bm μ x u)(ae:x≠ .bad)(aN:dn P t=some n)(aw:x.cells.length=n)
  {aW:J}(hs:storeCells H b off x.cells=some aW):
  ∃w',(Instr.storeAt t v u).run P w=.ok () w'/\bt μ aW w'/\cb μ H w μ aW w':=by
 obtain⟨i,af,rfl⟩:=aC
 have ag:=aa.cells ae
 obtain⟨w',ab,ad,ar⟩:=xm (P:=P) ak af ag hs
 refine⟨w',?_,ad,ar⟩
 have bx:u.cells.size=n:=by have:=ag.length;rw[aw] at this;simpa using this.symm
 simp[Instr.storeAt,Instr.sureAddr,storeVar,run_sizeOf aN,bx,ab]
theorem HI(off:Nat):∀(l:List Value) (s:Nat) (cs:Array Value),off+s+l.length<=cs.size->
  ((l.zipIdx s).foldl (λcs (x:Value×Nat)=>cs.setIfInBounds (off+x.2) x.1) cs).size=cs.size/\
  ∀j:Nat,((l.zipIdx s).foldl (λcs (x:Value×Nat)=>cs.setIfInBounds (off+x.2) x.1) cs)[j]? =if off+s<=j/\j<off+s+l.length then l[j-(off+s)]? else cs[j]?
 |[],s,cs,_=>by
  refine⟨rfl,λj=>by rw[if_neg (by simp)];rfl⟩
 |a::l,s,cs,h=>by
  simp only[List.length_cons] at h
  obtain⟨ab,ad⟩:=HI off l (s+1) (cs.setIfInBounds (off+s) a) (by simp;omega)
  simp only[List.zipIdx_cons,List.foldl_cons]
  refine⟨by rw[ab];simp,λj=>?_⟩
  rw[ad j]
  by_cases e:j=off+s
  · subst e
    rw[if_neg (by omega),if_pos (by simp),Array.getElem?_setIfInBounds]
    simp;omega
  · by_cases ay:off+(s+1)<=j/\j<off+(s+1)+l.length
    · rw[if_pos ay,if_pos (by simp only[List.length_cons];omega)]
      have:j-(off+s)=(j-(off+(s+1)))+1:=by omega
      rw[this];simp
    · rw[if_neg ay,if_neg (by simp only[List.length_cons];omega),Array.getElem?_setIfInBounds,if_neg (λcF=>e cF.symm)]
theorem xo(place:Nat->Option (Nat×Nat)){s0:Type}(g:s0->I)(cy:s0->Value)(al:∀x,bm μ (g x) (cy x)):∀(ps:List (Nat×s0)) (cs r:List I) (c:Array Value),cf μ cs c.toList->
  jT place cs (ps.map λp=>(p.1,g p.2))=some r->∃c':List Value,Instr.fill place c (ps.map λp=>(p.1,cy p.2))=some ⟨c'⟩/\cf μ r c'
 |[],cs,r,c,ag,h=>by
  simp[jT] at h;subst h
  exact⟨c.toList,by simp[Instr.fill],ag⟩
 |(k,x)::ps,cs,r,c,ag,h=>by
  simp only[List.map_cons] at h⊢
  have aC:=al x
  generalize g x=v at h aC
  generalize cy x=u at aC⊢
  have ae:v≠ .bad:=by intro e;subst e;simp[jT] at h
  have qm:∃off size bO,place k=some (off,size)/\v.cells.length=size/\off+size<=cs.length/\fT off v.cells cs=some bO/\jT place bO (ps.map λp=>(p.1,g p.2))=some r:=by
   cases v<;>first
    |exact absurd rfl ae
    |(simp only[jT] at h
      split at h
      · cases h
      · rename_i off size hC
        split at h
        · rename_i bx
          simp only[Bool.and_eq_true,Nat.ble_eq] at bx
          split at h
          · rename_i bO xp
            exact⟨off,size,bO,hC,Nat.eq_of_beq_eq_true bx.1,bx.2,xp,h⟩
          · cases h
        · cases h)
  obtain⟨off,size,bO,hC,bx,hbound,xp,nt⟩:=qm
  obtain⟨eF,fs,jk,lp⟩:=Aa _ _ _ _ xp
  have od:=aC.cells ae
  have aw:=od.length
  have ru:=ag.length
  have ar:c.toList.length=c.size:=by simp
  have Pv:u.cells.size=size:=by rw[<-bx,aw];simp
  obtain⟨f1,f2⟩:=HI off u.cells.toList 0 c (by simp;omega)
  have Pw:(u.cells.zipIdx.foldl (λcs (x:Value×Nat)=>cs.setIfInBounds (off+x.2) x.1) c)=((u.cells.toList.zipIdx 0).foldl (λcs (x:Value×Nat)=>cs.setIfInBounds (off+x.2) x.1) c):=by
   rw[<-Array.foldl_toList,Array.toList_zipIdx]
  have key:cf μ bO (u.cells.zipIdx.foldl (λcs (x:Value×Nat)=>cs.setIfInBounds (off+x.2) x.1) c).toList:=by
   rw[Pw]
   refine cf.xj (by rw[eF,ru];simpa using f1.symm) λj a aT=>?_
   rw[lp j] at aT
   rw[Array.getElem?_toList,f2 j]
   have HJ:u.cells.toList.length=v.cells.length:=aw.symm
   by_cases aj:off<=j/\j<off+v.cells.length
   · rw[if_pos aj] at aT;rw[if_pos (by omega)]
     exact od.get (by simpa using aT)
   · rw[if_neg aj] at aT;rw[if_neg (by omega)]
     simpa using ag.get aT
  obtain⟨c',ai,ax⟩:=xo place g cy al ps bO r _ key nt
  refine⟨c',?_,ax⟩
  simp only[Instr.fill,hC,Pv]
  rw[if_neg (by simp;omega)]
  exact ai
theorem Px{t:TypeId}{n:Nat}(h:dn P t=some n):P.cellsOf t=n:=by
 unfold dn at h
 split at h
 · rename_i i af;cases h;simp[Program.cellsOf,af]
 · cases h
theorem run_places(w:World):∀l:List Field,(l.all λf=>(dn P f.type).isSome)=true->
  (l.mapM (λf=>do pure (f.offset,<-_root_.Go.sizeOf f.type):Field->Sem (Nat×Nat))).run P w=.ok (l.map λf=>(f.offset,P.cellsOf f.type)) w
 |[],_=>rfl
 |f::l,h=>by
  simp only[List.all_cons,Bool.and_eq_true] at h
  obtain⟨n,aN⟩:=Option.isSome_iff_exists.1 h.1
  simp only[List.mapM_cons,Sem.run_bind,run_sizeOf aN,Result.andThen_ok,Sem.run_pure,run_places w l h.2,List.map_cons,Px aN]
theorem Py(ak:bt μ H w)(g:Operand->I)(cy:Operand->Value)(al:∀x,bm μ (g x) (cy x)){t:TypeId}{z:I}(a2:ei P t=some z){bV:Array Field}(hu:P.underlying t=some (.struct bV))
  (en:(bV.toList.all λf=>(dn P f.type).isSome)=true)(parts:Array (Nat×Operand)){cs:List I}
  (hf:jT (λi=>(bV[i]?).map λf=>(f.offset,P.cellsOf f.type)) z.cells (parts.toList.map λp=>(p.1,g p.2))=some cs):
  eW P μ H w (Instr.build t (parts.map λ(i,x)=>(i,cy x))) (.agg cs) H:=by
 obtain⟨v,aC,rfl,ae⟩:=lS (w:=w) a2
 have ag:=(j9 μ v).cells ae
 obtain⟨c',ab,ad⟩:=xo _ g cy al parts.toList _ cs v.cells ag hf
 have aK:=run_places (P:=P) w bV.toList en
 refine .same ak (v':=.agg ⟨c'⟩) ?_ ⟨c',rfl,ad⟩
 have hm:(bV.mapM (λf=>do pure (f.offset,<-_root_.Go.sizeOf f.type):Field->Sem (Nat×Nat))).run P w=.ok (bV.map λf=>(f.offset,P.cellsOf f.type)) w:=by
  obtain⟨l⟩:=bV
  have e:(l.toArray.mapM (λf=>do pure (f.offset,<-_root_.Go.sizeOf f.type):Field->Sem (Nat×Nat)))=List.toArray<$>l.mapM (λf=>do pure (f.offset,<-_root_.Go.sizeOf f.type)):=List.mapM_toArray
  refine(congrArg (λs:Sem (Array (Nat×Nat))=>s.run P w) e).trans ?_
  simp only[Sem.run_map]
  rw[show(Sem.run P (List.mapM (λf=>do pure (f.offset,<-_root_.Go.sizeOf f.type):Field->Sem (Nat×Nat)) l) w)=_ from aK];simp
 have Pz:(λi:Nat=>(bV.map λf=>(f.offset,P.cellsOf f.type))[i]?)=λi=>(bV[i]?).map λf=>(f.offset,P.cellsOf f.type):=by
  funext i;simp
 simp only[Instr.build,Sem.run_bind,aC,Result.andThen_ok,bX hu,hm,Pz,Array.toList_map,ab]
 rfl
theorem PA(ak:bt μ H w)(g:Operand->I)(cy:Operand->Value)(al:∀x,bm μ (g x) (cy x)){t e:TypeId}{n sz:Nat}{z:I}(a2:ei P t=some z)(hu:P.underlying t=some (.array n e))
  (hs:dn P e=some sz)(parts:Array (Nat×Operand)){cs:List I}
  (hf:jT (λi=>some (i*sz,sz)) z.cells (parts.toList.map λp=>(p.1,g p.2))=some cs):
  eW P μ H w (Instr.build t (parts.map λ(i,x)=>(i,cy x))) (.agg cs) H:=by
 obtain⟨v,aC,rfl,ae⟩:=lS (w:=w) a2
 have ag:=(j9 μ v).cells ae
 obtain⟨c',ab,ad⟩:=xo _ g cy al parts.toList _ cs v.cells ag hf
 refine .same ak (v':=.agg ⟨c'⟩) ?_ ⟨c',rfl,ad⟩
 simp only[Instr.build,Sem.run_bind,aC,Result.andThen_ok,bX hu,run_sizeOf hs,Array.toList_map,ab]
 rfl
theorem HK{α:Type}(n:Nat)(l:List α):(fi n l).length=n*l.length:=by
 induction n with
 |zero=>simp[fi]
 |succ n a7=>simp[fi,a7,Nat.succ_mul];omega
theorem HL{α:Type}:∀(n:Nat) (l:List α) (j:Nat),j<n*l.length->(fi n l)[j]? =l[j %l.length]?
 |0,l,j,h=>by simp at h
 |n+1,l,j,h=>by
  simp only[fi]
  by_cases e:j<l.length
  · rw[List.getElem?_append_left e,Nat.mod_eq_of_lt e]
  · rw[List.getElem?_append_right (by omega),HL n l (j-l.length) (by rw[Nat.succ_mul] at h;omega)]
    have:(j-l.length) %l.length=j %l.length:=by
     have ak:j=(j-l.length)+l.length:=by omega
     conv=>rhs;rw[ak,Nat.add_mod_right]
    rw[this]
theorem xq{nu:List I}{zero:Array Value}(a2:cf μ nu zero.toList){sz:Nat}(hs:nu.length=sz)(n:Nat):
  cf μ (fi n nu) ((Array.range (n*sz)).map (λi=>zero[i %zero.size]!)).toList:=by
 have aw:=a2.length
 have ar:zero.toList.length=zero.size:=by simp
 refine cf.xj (by rw[HK,hs];simp) λj a aT=>?_
 have aJ:j<n*nu.length:=by
  rcases Nat.lt_or_ge j (n*nu.length) with h|h
  · exact h
  · rw[List.getElem?_eq_none (by rw[HK];exact h)] at aT;cases aT
 rw[HL n nu j aJ] at aT
 obtain⟨u,hu,aj⟩:=a2.get aT
 refine⟨u,?_,aj⟩
 have xn:0<nu.length:=by
  rcases Nat.eq_zero_or_pos nu.length with h|h
  · rw[h] at aJ;simp at aJ
  · exact h
 have cd:j %zero.size<zero.size:=Nat.mod_lt _ (by omega)
 have aA:nu.length=zero.size:=by omega
 rw[aA] at hu
 rw[Array.getElem?_toList] at hu
 rw[Array.getElem?_toList,Array.getElem?_map,Array.getElem?_range]
 rw[if_pos (by rw[<-hs];exact aJ)]
 simp only[Option.map_some]
 rw[Array.getElem?_eq_getElem cd] at hu
 simp only[Option.some.injEq] at hu
 rw[getElem!_pos zero _ cd,hu]
theorem PB(ak:bt μ H w)(g:Operand->I)(cy:Operand->Value)(al:∀x,bm μ (g x) (cy x)){t e:TypeId}{len sz:Nat}{z:I}(hu:P.underlying t=some (.slice e))(hs:dn P e=some sz)
  (a2:ei P e=some z)(hle:len*sz<=16777216)(nv:z.cells.length=sz)(parts:Array (Nat×Operand)){cs:List I}
  (hf:jT (λi=>some (i*sz,sz)) (if len*sz=0 then[] else fi len z.cells) (parts.toList.map λp=>(p.1,g p.2))=some cs){b:Nat}{aW:J}(aj:newRow H e cs=some (b,aW)):
  eW P μ H w (Instr.buildSlice t len (parts.map λ(i,x)=>(i,cy x))) (.slice b 0 len (.exact len)) aW:=by
 obtain⟨v,aC,rfl,ae⟩:=lS (w:=w) a2
 have ag:=(j9 μ v).cells ae
 have xr:¬(len*sz>2^24):=by omega
 have key:∀zero:Array Value,cf μ (if len*sz=0 then[] else fi len (n7 v).cells) ((Array.range (len*sz)).map (λi=>zero[i %zero.size]!)).toList->
   (∀r:Result Value,r=(match Instr.fill (λi=>some (i*sz,sz)) ((Array.range (len*sz)).map (λi=>zero[i %zero.size]!)) (parts.toList.map λp=>(p.1,cy p.2)) with
    |some cells=>do pure (.slice (some (<-_root_.Go.newRow e cells)) len len)
    |none=>stuck "buildSlice: a part of the wrong size" :Sem Value).run P w->(Instr.buildSlice t len (parts.map λ(i,x)=>(i,cy x))).run P w=r)->
   eW P μ H w (Instr.buildSlice t len (parts.map λ(i,x)=>(i,cy x))) (.slice b 0 len (.exact len)) aW:=by
  intro zero qn eX
  obtain⟨c',ab,ad⟩:=xo _ g cy al parts.toList _ cs _ qn hf
  obtain⟨aD,rfl,bj,bD,bT⟩:=Ab (P:=P) ak ad aj
  refine⟨_,_,.slice (some ⟨w.heap.size,0,none⟩) len len,?_,⟨_,bj,by simp[CU]⟩,bD,bT⟩
  refine eX _ ?_
  rw[ab]
  simp[aD]
 by_cases h0:len*sz=0
 · refine key #[] (by rw[if_pos h0,h0];simp[cf]) λr aj=>?_
   rw[aj]
   simp only[Instr.buildSlice,Sem.run_bind,bX hu,Result.andThen_ok,run_sizeOf hs,if_neg xr,if_pos h0,Sem.run_pure,Array.toList_map]
   generalize Instr.fill _ _ _=F
   cases F<;>rfl
 · refine key v.cells (by rw[if_neg h0];exact xq ag nv len) λr aj=>?_
   rw[aj]
   simp only[Instr.buildSlice,Sem.run_bind,bX hu,Result.andThen_ok,run_sizeOf hs,if_neg xr,if_neg h0,Sem.run_pure,Array.toList_map,aC]
   generalize Instr.fill _ _ _=F
   cases F<;>rfl
end
end aP
namespace aP
open Go
theorem rv(n:Nat)(h:n<9223372036854775808):IntKind.wrap .i64 (n:Int)=(n:Int):=by
 have e:((n:Int) %18446744073709551616)=n:=by omega
 have ay:(2:Int)^64=18446744073709551616:=by rfl
 have bw:(2:Int)^63=9223372036854775808:=by rfl
 simp only[IntKind.wrap,IntKind.bits,IntKind.signed,ay,bw,e,Bool.true_and,decide_eq_true_eq,Nat.add_one_sub_one]
 rw[if_neg (by show¬((2:Int)^63<=n);rw[bw];omega)]
section
variable {P:Program} {μ:bq} {H:J} {w:World}
theorem PC(ak:bt μ H w){t e:TypeId}{l c:Nat}{i:TypeInfo}{z:I}{kl kc:IntKind}(hu:P.underlying t=some (.slice e))(af:P.info? e=some i)(a2:ei P e=some z)(ru:l<=c)
  (u3:c*(i.bytes+1)<=1099511627776)(nv:z.cells.length=i.size){b:Nat}{aW:J}(aj:newRow H e (if c*i.size=0 then[] else fi c z.cells)=some (b,aW)):
  eW P μ H w (Instr.makeSlice t (.int kl l) (.int kc c)) (.slice b 0 l (.exact c)) aW:=by
 obtain⟨v,aC,rfl,ae⟩:=lS (w:=w) a2
 have ag:=(j9 μ v).cells ae
 have ry:c<=1099511627776:=Nat.le_trans (Nat.le_mul_of_pos_right c (by omega)) u3
 have lT:i.bytes*c<=1099511627776:=by
  have:c*i.bytes<=c*(i.bytes+1):=Nat.mul_le_mul_left c (by omega)
  rw[Nat.mul_comm];omega
 have xt:∀n:Nat,n<=1099511627776->IntKind.wrap .i64 (n:Int)=(n:Int):=λn aN=>rv n (by omega)
 have jl:=xt l (by omega)
 have xu:=xt c ry
 have s5:¬((c:Int)<0||(i.bytes:Int)*(c:Int)>2^48||(l:Int)<0||(l:Int)>(c:Int))=true:=by
  have ab:((i.bytes:Int)*(c:Int))<=1099511627776:=by
   have h0:((i.bytes*c:Nat):Int)<=1099511627776:=by omega
   rw[Int.natCast_mul] at h0;exact h0
  have ad:(2:Int)^48=281474976710656:=by rfl
  generalize (i.bytes:Int)*(c:Int)=q at ab⊢
  rw[ad]
  simp only[Bool.or_eq_true,decide_eq_true_eq]
  omega
 have key:∀zero:Array Value,cf μ (if c*i.size=0 then[] else fi c (n7 v).cells) ((Array.range (c*i.size)).map (λj=>zero[j %zero.size]!)).toList->
   (Instr.makeSlice t (.int kl l) (.int kc c)).run P w=(do let a<-_root_.Go.newRow e ((Array.range (c*i.size)).map (λj=>zero[j %zero.size]!));pure (.slice (some a) l c):Sem Value).run P w->
   eW P μ H w (Instr.makeSlice t (.int kl l) (.int kc c)) (.slice b 0 l (.exact c)) aW:=by
  intro zero qn eX
  obtain⟨aD,rfl,bj,bD,bT⟩:=Ab (P:=P) ak qn aj
  refine⟨_,_,.slice (some ⟨w.heap.size,0,none⟩) l c,?_,⟨_,bj,by simp[CU]⟩,bD,bT⟩
  rw[eX]
  simp only[Sem.run_bind,Sem.run_pure]
  have:(⟨((Array.range (c*i.size)).map (λj=>zero[j %zero.size]!)).toList⟩:Array Value)=((Array.range (c*i.size)).map (λj=>zero[j %zero.size]!)):=rfl
  rw[this] at aD
  rw[aD];rfl
 have bx:(_root_.Go.sizeOf e).run P w=.ok i.size w:=by simp[_root_.Go.sizeOf,run_typeInfo af]
 by_cases h0:c*i.size=0
 · refine key #[] (by rw[if_pos h0,h0];simp[cf]) ?_
   simp only[Instr.makeSlice,Sem.run_bind,bX hu,Result.andThen_ok,asInt,asIntOf,Sem.run_pure,run_typeInfo af,jl,xu]
   rw[if_neg s5]
   simp[bx,h0]
 · refine key v.cells (by rw[if_neg h0];exact xq ag nv c) ?_
   simp only[Instr.makeSlice,Sem.run_bind,bX hu,Result.andThen_ok,asInt,asIntOf,Sem.run_pure,run_typeInfo af,jl,xu]
   rw[if_neg s5]
   simp[bx,h0,aC]
theorem PD{x:I}{v:Value}(aC:bm μ x v)(aa:(∃b o,x=.ptr b o)\/(∃b o n c,x=.slice b o n c)\/(∃f a b,x=.fn f a b)\/∃t y,x=.iface t y):
  ∀(o:Oper) (op:Operand) (cy:Operand->Value),cy op=v->o.op=.nilCheck op->(execOp cy o).run P w=.ok (.value v) w:=by
 intro o op cy PE a4
 simp only[execOp,a4,PE]
 rcases aa with⟨b,o',rfl⟩|⟨b,o',n,c,rfl⟩|⟨f,a,b,rfl⟩|⟨t,y,rfl⟩
 · obtain⟨i,_,rfl⟩:=aC;rfl
 · obtain⟨i,_,ag⟩:=aC
   cases c with
   |exact c=>cases ag;rfl
   |a1 gF=>obtain⟨c,rfl,_⟩:=ag;rfl
   |dead=>obtain⟨_,a,c,rfl⟩:=ag;rfl
 · obtain⟨bV,cs,rfl,_,_⟩:=aC;rfl
 · obtain⟨PF,rfl,_⟩:=aC;rfl
theorem PG(op:BinOp)(t:TypeId)(k:IntKind)(x y:Int)(ft:op≠ .shl/\op≠ .shr):binOp op t (.int k x) (.int k y)=match op with
  |.add|.sub|.mul=>Op.intArith op k x y
  |.quo|.rem=>Op.intDiv op k x y
  |.and|.or|.xor|.andNot=>Op.intBits op k x y
  |_=>Op.intCmp op x y:=by
 cases op<;>first
  |(exact absurd rfl ft.1)
  |(exact absurd rfl ft.2)
  |simp[binOp]
theorem PH{op:BinOp}{k:IntKind}{x y:Int}{v:I}(h:arith op k x y=some v)(ft:op≠ .shl/\op≠ .shr)(t:TypeId):
  ∃u,(binOp op t (.int k x) (.int k y)).run P w=.ok u w/\bm μ v u:=by
 rw[PG op t k x y ft]
 cases op<;>simp only[arith] at h
 case shl=>cases h
 case shr=>cases h
 case quo=>
  split at h
  · cases h
  · rename_i aS;cases h;exact⟨_,by simp only[Op.intDiv,if_neg aS];rfl,rfl⟩
 case rem=>
  split at h
  · cases h
  · rename_i aS;cases h;exact⟨_,by simp only[Op.intDiv,if_neg aS];rfl,rfl⟩
 all_goals (cases h;exact⟨_,rfl,rfl⟩)
theorem HM{op:BinOp}{k ej:IntKind}{x y:Int}{v:I}(h:ra op k x y=some v)(t:TypeId):
  ∃u,(binOp op t (.int k x) (.int ej y)).run P w=.ok u w/\bm μ v u:=by
 unfold ra at h
 split at h
 · cases h
 · rename_i aS
   cases op<;>simp only[] at h<;>first
    |(cases h;done)
    |(cases h;exact⟨_,by simp[binOp,Op.shift,aS],rfl⟩)
theorem HN(b:ByteArray):∀(n i:Nat) (r:List UInt8),b.size-i=n->ByteArray.toList.loop b i r=r.reverse++b.data.toList.drop i
 |0,i,r,h=>by
  rw[ByteArray.toList.loop]
  have hs:b.data.toList.length=b.size:=Array.length_toList
  rw[if_neg (by omega),List.drop_eq_nil_of_le (by omega)];simp
 |n+1,i,r,h=>by
  rw[ByteArray.toList.loop]
  have hs:b.data.toList.length=b.size:=Array.length_toList
  rw[if_pos (by omega),HN b n (i+1) _ (by omega)]
  rw[List.drop_eq_getElem_cons (i:=i) (by omega)]
  have:b.get! i=b.data.toList[i]'(by omega):=by
   have ad:i<b.data.size:=by have:=Array.length_toList (xs:=b.data);omega
   show b.data[i]! =_
   rw[getElem!_pos b.data i ad];simp
  simp[this]
theorem rz(s:ByteArray):s.toList=s.data.toList:=by
 unfold ByteArray.toList
 rw[HN s _ 0 [] rfl];simp
theorem oe:∀a b:List UInt8,dK a b=(a==b)
 |[],[]=>rfl
 |[],_::_=>rfl
 |_::_,[]=>rfl
 |a::x,b::y=>by
  have a7:=oe x y
  simp only[dK,List.cons_beq_cons]
  cases e:Nat.beq a.toNat b.toNat with
  |true=>
   have:a=b:=UInt8.toNat_inj.1 (Nat.eq_of_beq_eq_true e)
   subst this;simp[a7]
  |false=>
   have:(a==b)=false:=by
    rw[beq_eq_false_iff_ne];intro h;subst h;simp at e
   simp[this]
theorem C1:∀a b:List UInt8,dF a b=Op.bytesLess a b
 |[],[]=>rfl
 |[],_::_=>rfl
 |_::_,[]=>rfl
 |a::x,b::y=>by
  have a7:=C1 x y
  simp only[dF,Op.bytesLess]
  cases e:Nat.beq a.toNat b.toNat with
  |true=>
   have:a=b:=UInt8.toNat_inj.1 (Nat.eq_of_beq_eq_true e)
   subst this;simp[a7]
  |false=>
   have ab:(a==b)=false:=by
    rw[beq_eq_false_iff_ne];intro h;subst h;simp at e
   have ad:decide (a<b)=Nat.blt a.toNat b.toNat:=by
    rw[Bool.eq_iff_iff];simp[UInt8.lt_iff_toNat_lt]
   simp[ab,ad]
theorem HO:∀a b:List UInt8,(Op.bytesLess a b||(a==b))=!Op.bytesLess b a
 |[],[]=>rfl
 |[],_::_=>rfl
 |_::_,[]=>rfl
 |a::x,b::y=>by
  have a7:=HO x y
  simp only[Op.bytesLess,List.cons_beq_cons]
  by_cases h:a=b
  · subst h
    have:¬(a<a):=UInt8.lt_irrefl a
    simpa[this] using a7
  · have cS:(a==b)=false:=beq_eq_false_iff_ne.2 h
    have PI:(b==a)=false:=beq_eq_false_iff_ne.2 (λe=>h e.symm)
    simp only[cS,PI,Bool.false_and,Bool.or_false]
    rw[Bool.eq_iff_iff]
    simp only[decide_eq_true_eq,Bool.not_eq_true',decide_eq_false_iff_not,UInt8.lt_iff_toNat_lt]
    have:a.toNat≠b.toNat:=λe=>h (UInt8.toNat_inj.1 e)
    omega
theorem PJ{op:BinOp}{a b:ByteArray}{v:I}(h:gG op a.data.toList b.data.toList=some v)(t:TypeId):∃u,(binOp op t (.string a) (.string b)).run P w=.ok u w/\bm μ v u:=by
 have aT:=rz a
 have ae:=rz b
 have ab:=oe a.data.toList b.data.toList
 have ad:=C1 a.data.toList b.data.toList
 have ar:=C1 b.data.toList a.data.toList
 have ba:=HO a.data.toList b.data.toList
 have rA:a.data.toList.length=a.size:=Array.length_toList
 have PK:b.data.toList.length=b.size:=Array.length_toList
 cases op<;>simp only[gG] at h
 case add=>
  split at h
  · cases h
  · rename_i aw
    cases h
    refine⟨.string (a++b),?_,⟨a++b,rfl,by simp[ByteArray.data_append]⟩⟩
    rw[rA,PK] at aw
    simp only[binOp,Op.stringOp]
    rw[if_neg aw];rfl
 case eql=>cases h;exact⟨_,rfl,congrArg Value.bool (by rw[aT,ae,ab])⟩
 case neq=>cases h;exact⟨_,rfl,congrArg Value.bool (by rw[aT,ae,ab])⟩
 case lss=>cases h;exact⟨_,rfl,congrArg Value.bool (by rw[aT,ae,ad])⟩
 case leq=>cases h;exact⟨_,rfl,congrArg Value.bool (by rw[aT,ae,ar];exact ba)⟩
 case gtr=>cases h;exact⟨_,rfl,congrArg Value.bool (by rw[aT,ae,ar,ba,Bool.not_not])⟩
 case geq=>cases h;exact⟨_,rfl,congrArg Value.bool (by rw[aT,ae,ad])⟩
 all_goals cases h
def nw(μ:bq):Option I->Option Value->Prop
 |none,none=>True
 |some a,some v=>bm μ a v
 |_,_=>False
theorem nw.map(g:Operand->I)(cy:Operand->Value)(al:∀x,bm μ (g x) (cy x))(o:Option Operand):nw μ (o.map g) (o.map cy):=by
 cases o with
 |none=>trivial
 |some x=>exact al x
theorem HP{a:I}{n:Nat}(h:eK a=some n){v:Value}(aC:bm μ a v):∃k,v=.int k (n:Int):=by
 unfold eK at h
 split at h
 · rename_i k m;cases h;exact⟨k,aC⟩
 · cases h
theorem C2{n y:Nat}{k:IntKind}(h:n<=y)(c:BoundsCode):(Instr.sliceBound (.int k (n:Int)) y c).run P w=.ok n w:=by
 simp only[Instr.sliceBound,asIntOf,Sem.run_bind,Sem.run_pure,Result.andThen_ok]
 rw[if_pos ⟨by omega,by omega⟩]
 simp
theorem HQ{d n:Nat}{o:Option I}{o':Option Value}(h:hg d o=some n)(aj:nw μ o o'):(o'=none/\n=d/\o=none)\/∃k a,o=some a/\o'=some (.int k (n:Int)):=by
 cases o with
 |none=>cases o' with
  |none=>simp[hg] at h;exact .inl ⟨rfl,h.symm,rfl⟩
  |some _=>exact aj.elim
 |some a=>cases o' with
  |none=>exact aj.elim
  |some v=>obtain⟨k,e⟩:=HP (μ:=μ) h aj;exact .inr ⟨k,a,rfl,by rw[e]⟩
theorem og{len cap l h m:Nat}{aO af mx:Option I}{rB eQ mx':Option Value}(h7:nw μ aO rB)(kb:nw μ af eQ)(iF:nw μ mx mx')
  (ae:bounds len cap aO af mx=some (l,h,m))(b:Bool):(Instr.sliceBounds b len cap rB eQ mx').run P w=.ok (l,h,m) w/\l<=h/\h<=m/\m<=cap/\(mx=none->m=cap):=by
 unfold bounds at ae
 cases em:hg cap mx with
 |none=>rw[em] at ae;cases ae
 |some aZ=>
  rw[em] at ae
  simp only at ae
  cases hm:Nat.ble aZ cap with
  |false=>rw[hm] at ae;cases ae
  |true=>
   rw[hm] at ae
   simp only at ae
   have qo:=Nat.le_of_ble_eq_true hm
   split at ae
   · cases ae
   · rename_i ak Ac
     cases C3:Nat.ble ak aZ with
     |false=>rw[C3] at ae;cases ae
     |true=>
      rw[C3] at ae
      simp only at ae
      have HR:=Nat.le_of_ble_eq_true C3
      cases el:hg 0 aO with
      |none=>rw[el] at ae;cases ae
      |some bz=>
       rw[el] at ae
       simp only at ae
       cases aw:Nat.ble bz ak with
       |false=>rw[aw] at ae;cases ae
       |true=>
        rw[aw] at ae
        simp only[Option.some.injEq,Prod.mk.injEq] at ae
        obtain⟨rfl,rfl,rfl⟩:=ae
        have qp:=Nat.le_of_ble_eq_true aw
        have PL:(eQ=none/\mx'=none/\ak=len)\/∃k,eQ=some (.int k (ak:Int)):=by
         cases af with
         |none=>cases eQ with
          |some _=>exact kb.elim
          |none=>cases mx with
           |some _=>simp at Ac
           |none=>cases mx' with
            |some _=>exact iF.elim
            |none=>simp at Ac;exact .inl ⟨rfl,rfl,Ac.symm⟩
         |some a=>cases eQ with
          |none=>exact kb.elim
          |some v=>
           have hk:eK a=some ak:=by cases mx<;>simpa using Ac
           obtain⟨k,e⟩:=HP (μ:=μ) hk kb
           exact .inr ⟨k,by rw[e]⟩
        refine⟨?_,qp,HR,qo,λe=>by rw[e] at em;simp[hg] at em;exact em.symm⟩
        rcases HQ em iF with⟨aA,ay,_⟩|⟨bH,_,_,aA⟩<;>rcases PL with⟨bw,eh,fH⟩|⟨bY,bw⟩<;>rcases HQ el h7 with⟨gI,gx,_⟩|⟨eb,_,_,gI⟩<;>
         first
         |(exfalso;simp[aA] at eh;done)
         |(subst_vars;simp[Instr.sliceBounds,C2 qo,C2 HR,C2 qp])
end
end aP
namespace aP
open Go
section
variable {P:Program} {μ:bq} {H:J} {w:World}
theorem PM(t:ByteArray)(l h:Nat)(ak:h<=t.size):(t.extract l h).data.toList=List.take (h-l) (jD l t.data.toList):=by
 rw[nr]
 simp only[ByteArray.data_extract,Array.toList_extract,List.extract_eq_take_drop]
theorem xv{m n:Nat}(h:m<=n):Nat.ble m n=true:=Nat.ble_eq_true_of_le h
theorem C4{len k c:Nat}{aO af mx:Option I}{l h m:Nat}(ae:bounds len k aO af mx=some (l,h,m))(aq:k<=c):bounds len c aO af mx=some (l,h,if mx.isNone then c else m):=by
 have fin:∀(aZ bQ:Nat) (E:Option Nat),aZ<=bQ->
   (match E with
   |none=>none
   |some ak=>match Nat.ble ak aZ with
    |false=>none
    |true=>match hg 0 aO with
     |none=>none
     |some l=>match Nat.ble l ak with
      |false=>none
      |true=>some (l,ak,aZ))=some (l,h,m)->
   (match E with
   |none=>none
   |some ak=>match Nat.ble ak bQ with
    |false=>none
    |true=>match hg 0 aO with
     |none=>none
     |some l=>match Nat.ble l ak with
      |false=>none
      |true=>some (l,ak,bQ))=some (l,h,bQ):=by
  intro aZ bQ E hm fu
  cases E with
  |none=>cases fu
  |some ak=>
   simp only at fu⊢
   cases ab:Nat.ble ak aZ with
   |false=>rw[ab] at fu;cases fu
   |true=>
    rw[ab] at fu
    rw[xv (Nat.le_trans (Nat.le_of_ble_eq_true ab) hm)]
    simp only at fu⊢
    cases aw:hg 0 aO with
    |none=>rw[aw] at fu;cases fu
    |some bz=>
     rw[aw] at fu
     simp only at fu⊢
     cases aG:Nat.ble bz ak with
     |false=>rw[aG] at fu;cases fu
     |true=>rw[aG] at fu;simp only[Option.some.injEq,Prod.mk.injEq] at fu⊢;exact⟨fu.1,fu.2.1,trivial⟩
 unfold bounds at ae⊢
 cases mx with
 |none=>
  have aA:hg k none=some k:=rfl
  have ay:hg c none=some c:=rfl
  rw[aA] at ae;rw[ay]
  simp only at ae⊢
  rw[xv (Nat.le_refl k)] at ae;rw[xv (Nat.le_refl c)]
  simp only[Option.isNone_none,if_true] at ae⊢
  cases af with
  |none=>exact fin k c (some len) aq ae
  |some a=>exact fin k c (eK a) aq ae
 |some s6=>
  have aA:hg k (some s6)=eK s6:=rfl
  have ay:hg c (some s6)=eK s6:=rfl
  rw[aA] at ae;rw[ay]
  cases em:eK s6 with
  |none=>rw[em] at ae;cases ae
  |some aZ=>
   rw[em] at ae
   simp only at ae⊢
   cases ab:Nat.ble aZ k with
   |false=>rw[ab] at ae;cases ae
   |true=>
    rw[ab] at ae
    rw[xv (Nat.le_trans (Nat.le_of_ble_eq_true ab) aq)]
    simp only[Option.isNone_some,Bool.false_eq_true,if_false] at ae⊢
    have PN:aZ=m:=by
     cases af<;>simp only at ae
     · cases ae
     · split at ae<;>try cases ae
       split at ae<;>try cases ae
       split at ae<;>try cases ae
       split at ae<;>first|cases ae;rfl|cases ae
    subst PN
    cases af<;>exact ae
theorem PO(ak:bt μ H w){t:TypeId}{x:I}{bB:Value}(aa:bm μ x bB){aO af mx:Option I}{rB eQ mx':Option Value}(h7:nw μ aO rB)(kb:nw μ af eQ)(iF:nw μ mx mx'){v:I}
  (h:di P H t x aO af mx=some v):eW P μ H w (Instr.sliceAt t bB rB eQ mx') v H:=by
 unfold di at h
 split at h
 ·
  rename_i s hu
  obtain⟨bs,rfl,rfl⟩:=aa
  cases mx with
  |some _=>cases h
  |none=>
   simp only at h
   cases mx' with
   |some _=>exact iF.elim
   |none=>
    split at h
    · rename_i l ae m fk
      cases h
      have bx:bs.data.toList.length=bs.size:=Array.length_toList
      rw[bx] at fk
      obtain⟨r1,r2,ec,fb,_⟩:=og (P:=P) (w:=w) h7 kb (μ:=μ) (mx:=none) (mx':=none) trivial fk false
      refine .same ak (v':=.string (bs.extract l ae)) ?_ ⟨_,rfl,PM _ _ _ (by omega)⟩
      simp[Instr.sliceAt,Instr.slice,bX hu,r1]
    · cases h
 ·
  rename_i e hu
  cases aa
  split at h
  · rename_i sz r hs fk
    cases h
    obtain⟨l,ae,m⟩:=r
    obtain⟨r1,r2,ec,fb,_⟩:=og (P:=P) (w:=w) h7 kb iF fk true
    have:m=0/\l=0/\ae=0:=by omega
    obtain⟨rfl,rfl,rfl⟩:=this
    exact .same ak (v':=.slice none 0 0) (by simp[Instr.sliceAt,Instr.slice,bX hu,r1,run_sizeOf hs]) rfl
  · cases h
 ·
  rename_i e b off len cap hu
  obtain⟨i,nx,ag⟩:=aa
  cases ag
  split at h
  · rename_i sz l ae m hs fk
    cases h
    obtain⟨r1,r2,ec,fb,_⟩:=og (P:=P) (w:=w) h7 kb iF fk true
    refine .same ak (v':=.slice (some ⟨i.bl,i.base+(if m=l then off else off+l*sz),none⟩) (ae-l) (m-l)) ?_ ⟨i,nx,rfl⟩
    by_cases e:m=l
    · simp[Instr.sliceAt,Instr.slice,bX hu,r1,run_sizeOf hs,e]
    · simp[Instr.sliceAt,Instr.slice,bX hu,r1,run_sizeOf hs,e,add_plain,Nat.add_assoc]
  · cases h
 ·
  rename_i e b off len gF hu
  obtain⟨i,nx,c,rfl,ru,bx⟩:=aa
  split at h
  · rename_i sz hs
    split at h
    · rename_i HS
      subst HS
      cases mx with
      |none=>
       cases mx' with
       |some _=>exact iF.elim
       |none=>
        simp only at h
        split at h
        · rename_i l ae m fk
          have xw:bounds len c aO af none=some (l,ae,c):=C4 fk ru
          obtain⟨r1,r2,ec,fb,_⟩:=og (P:=P) (w:=w) h7 kb (μ:=μ) (mx:=none) (mx':=none) trivial xw true
          obtain⟨_,a6,b4,fX,_⟩:=og (P:=P) (w:=w) h7 kb (μ:=μ) (mx:=none) (mx':=none) trivial fk true
          have eX:(Instr.sliceAt t (.slice (some ⟨i.bl,i.base+off,none⟩) len c) rB eQ none).run P w=.ok (.slice (some (if c=l then⟨i.bl,i.base+off,none⟩ else⟨i.bl,i.base+off+l*sz,none⟩)) (ae-l) (c-l)) w:=by
           by_cases e:c=l
           · subst e;simp[Instr.sliceAt,Instr.slice,bX hu,r1,run_sizeOf hs]
           · simp[Instr.sliceAt,Instr.slice,bX hu,r1,run_sizeOf hs,e,add_plain]
          split at h
          · rename_i HT
            subst HT
            cases h
            refine .same ak eX ⟨i,nx,c,?_,by omega,bx⟩
            by_cases e:c=0
            · simp[e]
            · simp[e]
          · rename_i HT
            split at h
            · rename_i cd
              cases h
              simp only[Nat.blt_eq] at cd
              refine .same ak eX ⟨i,nx,c-l,?_,by omega,?_⟩
              · rw[if_neg (by omega)];simp[Nat.add_assoc]
              · have:c*sz=l*sz+(c-l)*sz:=by rw[<-Nat.add_mul];congr 1;omega
                omega
            · rename_i cd
              cases h
              have xx:¬l<len:=by simpa[Nat.blt_eq] using cd
              have h0:ae-l=0:=by omega
              rw[h0] at eX
              exact .same ak eX ⟨i,nx,rfl,_,c-l,rfl⟩
        · cases h
      |some s6=>
       simp only at h
       split at h
       · rename_i l ae m fk
         cases h
         obtain⟨_,a6,b4,fX,_⟩:=og (P:=P) (w:=w) h7 kb iF fk true
         have xw:bounds len c aO af (some s6)=some (l,ae,m):=C4 fk ru
         obtain⟨r1,r2,ec,fb,_⟩:=og (P:=P) (w:=w) h7 kb iF xw true
         refine .same ak (v':=.slice (some ⟨i.bl,i.base+(if m=l then off else off+l*sz),none⟩) (ae-l) (m-l)) ?_ ⟨i,nx,rfl⟩
         by_cases e:m=l
         · simp[Instr.sliceAt,Instr.slice,bX hu,r1,run_sizeOf hs,e]
         · simp[Instr.sliceAt,Instr.slice,bX hu,r1,run_sizeOf hs,e,add_plain,Nat.add_assoc]
       · cases h
    · cases h
  · cases h
 ·
  rename_i e b off len hu
  obtain⟨i,nx,rfl,a,c,rfl⟩:=aa
  split at h
  · rename_i sz r hs fk
    cases h
    obtain⟨l,ae,m⟩:=r
    obtain⟨_,a6,b4,fX,fI⟩:=og (P:=P) (w:=w) h7 kb iF fk true
    have:m=0/\l=0/\ae=0:=by omega
    obtain⟨rfl,rfl,rfl⟩:=this
    have xw:bounds 0 c aO af mx=some (0,0,(if mx.isNone then c else 0)):=C4 fk (Nat.zero_le _)
    obtain⟨r1,r2,ec,fb,_⟩:=og (P:=P) (w:=w) h7 kb iF xw true
    refine .same ak (v':=.slice (some a) 0 ((if mx.isNone then c else 0)-0)) ?_ ⟨i,nx,rfl,a,_,rfl⟩
    have aT:a.add (0*sz)=a:=by simp[Addr.add]
    simp[Instr.sliceAt,Instr.slice,bX hu,r1,run_sizeOf hs,Addr.add]
  · cases h
 ·
  rename_i n e b off hu
  obtain⟨i,nx,rfl⟩:=aa
  split at h
  · rename_i sz l ae m hs fk
    cases h
    obtain⟨r1,r2,ec,fb,_⟩:=og (P:=P) (w:=w) h7 kb iF fk false
    refine .same ak (v':=.slice (some ⟨i.bl,i.base+(if m=l then off else off+l*sz),none⟩) (ae-l) (m-l)) ?_ ⟨i,nx,rfl⟩
    by_cases e:m=l
    · simp[Instr.sliceAt,Instr.sureAddr,bX hu,r1,run_sizeOf hs,e]
    · simp[Instr.sliceAt,Instr.sureAddr,bX hu,r1,run_sizeOf hs,e,add_plain,Nat.add_assoc]
  · cases h
 ·
  rename_i arr b off hu
  obtain⟨i,nx,rfl⟩:=aa
  split at h
  · rename_i n e pq
    split at h
    · rename_i sz l ae m hs fk
      cases h
      obtain⟨r1,r2,ec,fb,_⟩:=og (P:=P) (w:=w) h7 kb iF fk false
      refine .same ak (v':=.slice (some ⟨i.bl,i.base+(if m=l then off else off+l*sz),none⟩) (ae-l) (m-l)) ?_ ⟨i,nx,rfl⟩
      by_cases e:m=l
      · simp[Instr.sliceAt,Instr.slice,asAddr,bX hu,bX pq,r1,run_sizeOf hs,e]
      · simp[Instr.sliceAt,Instr.slice,asAddr,bX hu,bX pq,r1,run_sizeOf hs,e,add_plain,Nat.add_assoc]
    · cases h
  · cases h
 · cases h
theorem rC{t:TypeId}{off:Nat}{cs:List I}{l:List Value}(aw:cf μ cs l){v:I}(h:iQ P t cs off=some v):∃u,(part t ⟨l⟩ off).run P w=.ok u w/\bm μ v u:=by
 unfold iQ at h
 split at h
 · rename_i n aT aN
   split at h
   · rename_i r aj
     cases h
     rw[nr] at aj
     obtain⟨ab,rfl⟩:=s4 _ _ _ aj
     refine⟨.agg ⟨(l.drop off).take n⟩,?_,⟨_,rfl,?_⟩⟩
     · simp[part,u2 aT,run_sizeOf aN,List.extract_eq_take_drop]
     · refine cf.xj (by have:=aw.length;simp[this]) λj a aJ=>?_
       rw[List.getElem?_take] at aJ⊢
       split at aJ
       · rename_i C5
         rw[if_pos C5]
         rw[List.getElem?_drop] at aJ⊢
         exact aw.get aJ
       · cases aJ
   · cases h
 · rename_i _ aT
   rw[ql] at h
   obtain⟨u,hu,aj⟩:=aw.get h
   refine⟨u,?_,aj⟩
   simp[part,u2 aT,hu]
 · cases h
theorem PQ(ak:bt μ H w){t:TypeId}{bV:Array Field}{fd:Field}{f:Nat}(hu:P.underlying t=some (.struct bV))(hf:bV[f]? =some fd){cs:List I}{bB:Value}(aa:bm μ (.agg cs) bB){v:I}
  (h:iQ P fd.type cs fd.offset=some v):eW P μ H w (Instr.field t bB f) v H:=by
 obtain⟨l,rfl,aw⟩:=aa
 obtain⟨u,ab,ad⟩:=rC (P:=P) (w:=w) aw h
 exact .same ak (v':=u) (by simp[Instr.field,bX hu,hf,asAgg,ab]) ad
theorem PR(ak:bt μ H w){s:TypeId}{bV:Array Field}{fd:Field}{f n b off:Nat}(hu:P.underlying s=some (.struct bV))(hf:bV[f]? =some fd)(aN:dn P fd.type=some n)(xy:n≠0){bB:Value}
  (aa:bm μ (.ptr b off) bB):eW P μ H w (Instr.fieldAt s bB f) (.ptr b (off+fd.offset)) H:=by
 obtain⟨i,af,rfl⟩:=aa
 refine .same ak (v':=.pointer (some ⟨i.bl,i.base+(off+fd.offset),none⟩)) ?_ ⟨i,af,rfl⟩
 simp[Instr.fieldAt,bX hu,hf,Instr.sureAddr,fieldPlace,run_sizeOf aN,xy,add_plain,Nat.add_assoc]
theorem PS(ak:bt μ H w){t e:TypeId}{b off n k sz:Nat}{c:b3}{bh:IntKind}(hu:P.underlying t=some (.slice e))(hs:dn P e=some sz){bB:Value}(aa:bm μ (.slice b off n c) bB)(aq:k<n):
  eW P μ H w (Instr.indexAt t bB (.int bh (k:Int))) (.ptr b (off+k*sz)) H:=by
 obtain⟨i,af,ag⟩:=aa
 have jm:∃cap,bB=.slice (some ⟨i.bl,i.base+off,none⟩) n cap:=by
  cases c with
  |exact c=>exact⟨c,ag⟩
  |a1 gF=>obtain⟨c,h,_⟩:=ag;exact⟨c,h⟩
  |dead=>obtain⟨h0,_⟩:=ag;omega
 obtain⟨cap,rfl⟩:=jm
 refine .same ak (v':=.pointer (some ⟨i.bl,i.base+(off+k*sz),none⟩)) ?_ ⟨i,af,rfl⟩
 simp only[Instr.indexAt,asIntOf,Sem.run_bind,Sem.run_pure,Result.andThen_ok,bX hu]
 rw[if_pos ⟨by omega,by omega⟩]
 simp[run_sizeOf hs,add_plain,Nat.add_assoc]
theorem PT(ak:bt μ H w){t e:TypeId}{b off n k sz:Nat}{bh:IntKind}(hu:P.underlying t=some (.array n e))(hs:dn P e=some sz){bB:Value}(aa:bm μ (.ptr b off) bB)(aq:k<n):
  eW P μ H w (Instr.indexAt t bB (.int bh (k:Int))) (.ptr b (off+k*sz)) H:=by
 obtain⟨i,af,rfl⟩:=aa
 refine .same ak (v':=.pointer (some ⟨i.bl,i.base+(off+k*sz),none⟩)) ?_ ⟨i,af,rfl⟩
 simp only[Instr.indexAt,asIntOf,Sem.run_bind,Sem.run_pure,Result.andThen_ok,bX hu,Instr.sureAddr]
 rw[if_pos ⟨by omega,by omega⟩]
 simp[run_sizeOf hs,add_plain,Nat.add_assoc]
theorem PU(ak:bt μ H w){t e:TypeId}{n k sz:Nat}{bh:IntKind}{cs:List I}(hu:P.underlying t=some (.array n e))(hs:dn P e=some sz){bB:Value}(aa:bm μ (.agg cs) bB)(aq:k<n){v:I}
  (h:iQ P e cs (k*sz)=some v):eW P μ H w (Instr.index t bB (.int bh (k:Int))) v H:=by
 obtain⟨l,rfl,aw⟩:=aa
 obtain⟨u,ab,ad⟩:=rC (P:=P) (w:=w) aw h
 refine .same ak (v':=u) ?_ ad
 simp only[Instr.index,asIntOf,Sem.run_bind,Sem.run_pure,Result.andThen_ok,bX hu]
 rw[if_pos ⟨by omega,by omega⟩]
 simp[run_sizeOf hs,ab]
theorem PV(ak:bt μ H w){t:TypeId}{k:Nat}{bh:IntKind}{s:List UInt8}(hu:P.underlying t=some .string){bB:Value}(aa:bm μ (.str s) bB){c:UInt8}(h:nth k s=some c):
  eW P μ H w (Instr.index t bB (.int bh (k:Int))) (.int .u8 (Int.ofNat c.toNat)) H:=by
 obtain⟨bs,rfl,rfl⟩:=aa
 rw[ql] at h
 refine .same ak (v':=.int .u8 (c.toNat:Int)) ?_ rfl
 have aq:k<bs.data.size:=by
  rcases Nat.lt_or_ge k bs.data.size with an|an
  · exact an
  · rw[List.getElem?_eq_none (by simpa using an)] at h;cases h
 have al:bs[k]? =some c:=by
  rw[Array.getElem?_toList] at h
  rw[<-h]
  show(if h:k<bs.size then some bs[k] else none)=_
  have e3:k<bs.size:=aq
  rw[dif_pos e3,Array.getElem?_eq_getElem aq];rfl
 simp only[Instr.index,asIntOf,Sem.run_bind,Sem.run_pure,Result.andThen_ok,bX hu]
 rw[if_pos (by omega)]
 simp[al]
end
end aP
namespace aP
open Go
section
variable {P:Program} {μ:bq} {H:J} {w:World}
theorem Ad(μ:bq):∀l:List UInt8,cf μ (dd l) (l.map λb=>.int .u8 b.toNat)
 |[]=>rfl
 |b::l=>⟨_,_,rfl,rfl,Ad μ l⟩
theorem PW(t:ByteArray):(t.extract 0 t.size)=t:=by
 obtain⟨d⟩:=t
 simp[ByteArray.ext_iff,ByteArray.data_extract,ByteArray.size]
theorem Ae(ak:bt μ H w){size n:Nat}{x:I}{bB:Value}(aa:bm μ x bB){cs:List I}(h:fV H size x=some (n,cs)):
  (Builtin.lenOf bB).run P w=.ok n w/\(∃us:List Value,(Builtin.firstCells size n bB).run P w=.ok ⟨us⟩ w/\cf μ cs us):=by
 cases x<;>simp only[fV] at h<;>try cases h
 · split at h<;>try cases h
   obtain⟨bs,rfl,rfl⟩:=aa
   refine⟨by rw[show bs.data.toList.length=bs.size from Array.length_toList];rfl,_,?_,Ad μ _⟩
   have bx:bs.data.toList.length=bs.size:=Array.length_toList
   simp only[Builtin.firstCells,Sem.run_pure,bx,PW]
   congr 1
   apply Array.ext'
   simp
 · cases aa
   exact⟨rfl,[],rfl,rfl⟩
 · rename_i b off len cap
   obtain⟨i,af,ag⟩:=aa
   cases cap with
   |dead=>
    obtain⟨rfl,a,c,rfl⟩:=ag
    simp at h
    obtain⟨rfl,rfl⟩:=h
    exact⟨rfl,[],by simp[Builtin.firstCells,_root_.Go.loadCells,loadCellsFrom],rfl⟩
   |exact c=>
    cases ag
    simp only at h
    split at h
    · rename_i bO aw
      cases h
      obtain⟨us,ab,ad⟩:=rq (P:=P) ak af aw
      exact⟨rfl,us,by simp only[Builtin.firstCells];exact ab,ad⟩
    · cases h
   |a1 gF=>
    obtain⟨c,rfl,_⟩:=ag
    simp only at h
    split at h
    · rename_i bO aw
      cases h
      obtain⟨us,ab,ad⟩:=rq (P:=P) ak af aw
      exact⟨rfl,us,by simp only[Builtin.firstCells];exact ab,ad⟩
    · cases h
theorem PX{z:Value}(n:Nat){nu:List I}(a2:cf μ nu z.cells.toList):cf μ (fi n nu) (Builtin.zeroCells z.cells n).toList:=by
 have:=xq a2 rfl n
 have aw:=a2.length
 have ar:z.cells.toList.length=z.cells.size:=by simp
 rw[aw,ar] at this
 exact this
theorem PY(need old:Nat)(h:old<need):Builtin.nextslicecap need old<=4*need+2048:=by
 unfold Builtin.nextslicecap
 split
 · omega
 · split
   · omega
   · have al:∀rounds c,c<=2*need+768->(∀k,k<=rounds->True)->Builtin.growBy need rounds c<=4*need+2048:=by
       intro rounds
       induction rounds with
       |zero=>intro c ag _;simp only[Builtin.growBy];omega
       |succ r a7=>
        intro c ag _
        simp only[Builtin.growBy]
        split
        · omega
        · rename_i cd
          exact a7 _ (by omega) (λ_ _=>trivial)
     exact al 4 old (by omega) (λ_ _=>trivial)
theorem bt.PZ{w':World}(h:bt μ H w){b:Nat}{o o':df}{i:eV}(ae:H.get b=some o)(hi:o.pj=false)(af:μ b=some i)
  (hs:w'.heap.size=w.heap.size)(a4:∀r,r≠i.bl->w'.heap[r]? =w.heap[r]?)(xl:w'.os=w.os)(CY:w'.output=w.output)(CZ:w'.tape=w.tape)(base sz:Nat)
  (aj:ph (fr μ H.n ⟨i.bl,base,sz⟩) o' ⟨i.bl,base,sz⟩ w')(hdr:w.drawn<=w'.drawn:=by first|exact Nat.le_refl _|assumption):
  bt (fr μ H.n ⟨i.bl,base,sz⟩) ((H.set b none).push o') w'/\cb μ H w (fr μ H.n ⟨i.bl,base,sz⟩) ((H.set b none).push o') w':=by
 have hle:=h.oc ⟨i.bl,base,sz⟩
 have xz:b<H.n:=(h.lt b i af).1
 have u0:H.get b≠none:=by rw[ae];simp
 have hP:∀c,((H.set b none).push o').get c=if c=H.n then some o' else if c=b then none else H.get c:=λc=>by
  rw[J.gp,J.cV];rfl
 have qk:∀c,c<H.n->((H.set b none).push o').get c≠none->c≠b/\H.get c≠none:=λc ag aN=>by
  rw[hP,if_neg (by omega)] at aN
  by_cases e:c=b
  · rw[if_pos e] at aN;exact absurd rfl aN
  · rw[if_neg e] at aN;exact⟨e,aN⟩
 constructor
 · refine⟨λc fG j ag aJ=>?_,λc d j k ag ao aJ aq e=>?_,λc j aJ=>?_,λc ag=>?_⟩
   · rw[hP] at ag
     by_cases e:c=H.n
     · rw[if_pos e] at ag;subst e;cases ag;rw[gw] at aJ;cases aJ;exact aj
     · rw[if_neg e] at ag;rw[hj _ _ e] at aJ
       by_cases ay:c=b
       · rw[if_pos ay] at ag;cases ag
       · rw[if_neg ay] at ag
         exact(h.rel c fG j ag aJ).mono hle (a4 _ λcF=>ay (h.inj c b j i (by rw[ag];simp) ⟨o,ae,hi⟩ aJ af cF))
   · have side:∀c j,c≠H.n->((H.set b none).push o').get c≠none->fr μ H.n ⟨i.bl,base,sz⟩ c=some j->j.bl≠i.bl:=λc j qq ag aJ e=>by
       rw[hj _ _ qq] at aJ
       obtain⟨a8,a6⟩:=qk c (h.lt c j aJ).1 ag
       exact a8 (h.inj c b j i a6 ⟨o,ae,hi⟩ aJ af e)
     by_cases aA:c=H.n
     · by_cases ay:d=H.n
       · rw[aA,ay]
       · subst aA;rw[gw] at aJ;cases aJ
         exact absurd e.symm (side d k ay (by obtain⟨x,aa,_⟩:=ao;rw[aa];simp) aq)
     · by_cases ay:d=H.n
       · subst ay;rw[gw] at aq;cases aq
         exact absurd e (side c j aA ag aJ)
       · rw[hj _ _ aA] at aJ;rw[hj _ _ ay] at aq
         exact h.inj c d j k (qk c (h.lt c j aJ).1 ag).2 (by
          obtain⟨x,aa,pn⟩:=ao
          rw[hP,if_neg ay] at aa
          split at aa
          · cases aa
          · exact⟨x,aa,pn⟩) aJ aq e
   · by_cases e:c=H.n
     · subst e;rw[gw] at aJ;cases aJ
       have:=(h.lt b i af).2
       exact⟨by simp,by rw[hs];exact this⟩
     · rw[hj _ _ e] at aJ
       have:=h.lt c j aJ
       exact⟨by simp;omega,by rw[hs];exact this.2⟩
   · simp at ag
     rw[hP,if_neg (by omega),if_neg (by omega)];exact h.bound c (by omega)
 · refine⟨hle,by omega,by simp,λc ag aN=>(qk c ag aN).2,λc ag hm=>(by rw[hP,if_neg (by omega),if_neg];intro e;subst e;rw[af] at hm;cases hm),λr _ aN=>a4 r λe=>aN b i u0 af e.symm,λc j ab ad=>?_,λc fG j ag rn aJ=>?_,xl,CY,CZ,hdr⟩
   · by_cases e:c=H.n
     · subst e;rw[gw] at ad;cases ad
       exact⟨Nat.le_refl _,.inr ⟨b,o,i,ae,hi,af,rfl⟩⟩
     · rw[hj _ _ e,ab] at ad;cases ad
   · have cS:c≠b:=by intro e;subst e;rw[ae] at ag;cases ag;rw[hi] at rn;cases rn
     have qq:=(h.lt c j aJ).1
     refine⟨by rw[hP,if_neg (by omega),if_neg cS];exact ag,a4 _ λe=>cS (h.inj c b j i (by rw[ag];simp) ⟨o,ae,hi⟩ aJ af e)⟩
theorem bt.kill(h:bt μ H w){b:Nat}{o:df}{i:eV}(ae:H.get b=some o)(hi:o.pj=false)(af:μ b=some i):
  bt μ (H.set b none) w/\cb μ H w μ (H.set b none) w:=by
 have qk:∀c,(H.set b none).get c≠none->H.get c≠none:=λc aN=>by
  rw[J.cV] at aN
  by_cases e:c=b
  · rw[if_pos e] at aN;exact absurd rfl aN
  · rw[if_neg e] at aN;exact aN
 constructor
 · refine⟨λc fG j ag aJ=>?_,λc d j k ag ao=>h.inj c d j k (qk c ag) (by
     obtain⟨x,aa,pn⟩:=ao
     rw[J.cV] at aa
     split at aa
     · cases aa
     · exact⟨x,aa,pn⟩),h.lt,λc ag=>?_⟩
   · rw[J.cV] at ag
     by_cases e:c=b
     · rw[if_pos e] at ag;cases ag
     · rw[if_neg e] at ag;exact h.rel c fG j ag aJ
   · rw[J.cV]
     split
     · rfl
     · exact h.bound c ag
 · refine⟨e8.refl μ,Nat.le_refl _,Nat.le_refl _,λc _ ag=>qk c ag,λc _ hm=>(by rw[J.cV,if_neg];intro e;subst e;rw[af] at hm;cases hm),λ_ _ _=>rfl,λc j ab ad=>(by rw[ab] at ad;cases ad),λc fG j ag rn aJ=>⟨?_,rfl⟩,rfl,rfl,rfl,Nat.le_refl _⟩
   have cS:c≠b:=by intro e;subst e;rw[ae] at ag;cases ag;rw[hi] at rn;cases rn
   rw[J.cV,if_neg cS];exact ag
theorem bt.drew(h:bt μ H w):bt μ H w.drew:=h.of_heap rfl
theorem cb.drew:cb μ H w μ H w.drew:=cb.of_heap rfl rfl rfl rfl
theorem P0{need bytes:Nat}(h:kW need bytes=true):(4*need+2048)*bytes<=281474976710656/\need<=281474976710656:=by
 simp only[kW,Nat.ble_eq] at h
 have ab:(4*need+2048)*bytes<=(4*need+2048)*(bytes+1):=Nat.mul_le_mul_left _ (by omega)
 have ad:(4*need+2048)*1<=(4*need+2048)*(bytes+1):=Nat.mul_le_mul_left _ (by omega)
 refine⟨Nat.le_trans ab h,?_⟩
 have ar:=Nat.le_trans ad h
 rw[Nat.mul_one] at ar
 generalize 281474976710656=q at ar⊢
 omega
theorem P1{sT e:TypeId}{xT:Option TypeId}{i:TypeInfo}{z:Value}{argTypes:Array TypeId}{ty:TypeId}(h0:argTypes[0]? =some sT)(ab:argTypes[1]? =xT)(hu:P.underlying sT=some (.slice e))(aa:o4 P xT=true)(af:P.info? e=some i)
  (a2:∀w:World,(zeroValue e).run P w=.ok z w){base:Option Addr}{sLen sCap n:Nat}{bB:Value}(aw:(Builtin.lenOf bB).run P w=.ok n w){us old:List Value}(hold:(Builtin.firstCells i.size sLen (.slice base sLen sCap)).run P w.drew=.ok ⟨old⟩ w.drew)
  (rD:(Builtin.firstCells i.size n bB).run P w.drew=.ok ⟨us⟩ w.drew)(cd:sCap<sLen+n)(pr:kW (sLen+n) i.bytes=true):
  ∃lU,sLen+n<=lU/\(Builtin.append_ argTypes ty #[.slice base sLen sCap,bB]).run P w=
   .ok (.slice (some ⟨w.heap.size,0,none⟩) (sLen+n) lU) (w.drew.alloc (.cells (⟨old⟩++⟨us⟩++Builtin.zeroCells z.cells (lU-(sLen+n))) e)):=by
 obtain⟨aZ,bQ⟩:=P0 pr
 have P2:=PY (sLen+n) sCap cd
 have u3:¬(Builtin.nextslicecap (sLen+n) sCap*i.bytes>2^48):=by
  have ab:Builtin.nextslicecap (sLen+n) sCap*i.bytes<=(4*(sLen+n)+2048)*i.bytes:=Nat.mul_le_mul_right _ P2
  have ad:(2:Nat)^48=281474976710656:=by rfl
  rw[ad]
  exact Nat.not_lt.2 (Nat.le_trans ab aZ)
 have P3:IntKind.max .i64=9223372036854775807:=rfl
 have jI:¬(((sLen+n:Nat):Int)>IntKind.i64.max):=by rw[P3];omega
 have HU:¬(sLen+n<=sCap):=by omega
 have bx:∀w:World,(_root_.Go.sizeOf e).run P w=.ok i.size w:=λw=>by simp[_root_.Go.sizeOf,run_typeInfo af]
 have Af:(Question.appendCap (sLen+n) sCap e).forced=false:=rfl
 have xA:∀w:World,(typeInfo e).run P w=.ok i w:=λw=>run_typeInfo af
 have Ag:∀(c:Nat) (cs:Array Value),(_root_.Go.newRow e cs).run P w.drew=.ok ⟨w.heap.size,0,none⟩ (w.drew.alloc (.cells cs e)):=λc cs=>rfl
 refine⟨(Question.appendCap (sLen+n) sCap e).cut (w.tape w.drawn (Question.appendCap (sLen+n) sCap e)),by simp[Question.cut],?_⟩
 cases xT with
 |none=>
  simp only[Builtin.append_,h0,ab,List.getElem?_toArray,List.getElem?_cons_zero,List.getElem?_cons_succ,Sem.run_bind,bX hu,Result.andThen_ok,bx,Sem.run_pure,aw,Bool.false_eq_true,if_false,if_neg HU,xA,jI,false_and,if_neg u3,
   run_choose,Af,run_askRoom,World.drew_eq,hold,rD,Bool.not_false,if_true,a2,Ag 0]
 |some C6=>
  simp only[o4] at aa
  cases ao:P.underlying C6 with
  |none=>rw[ao] at aa;cases aa
  |some d=>
   rw[ao] at aa
   cases d<;>first
   |(cases aa;done)
   |simp only[Builtin.append_,h0,ab,List.getElem?_toArray,List.getElem?_cons_zero,List.getElem?_cons_succ,Sem.run_bind,bX hu,bX ao,Result.andThen_ok,bx,Sem.run_pure,aw,Bool.false_eq_true,if_false,if_neg HU,xA,jI,false_and,if_neg u3,
    run_choose,Af,run_askRoom,World.drew_eq,hold,rD,Bool.not_false,if_true,a2,Ag 0]
theorem xB{sT e:TypeId}{xT:Option TypeId}{i:TypeInfo}{argTypes:Array TypeId}{ty:TypeId}(h0:argTypes[0]? =some sT)(ab:argTypes[1]? =xT)(hu:P.underlying sT=some (.slice e))(aa:o4 P xT=true)(af:P.info? e=some i)
  {base:Option Addr}{sLen sCap n:Nat}{bB:Value}(aw:(Builtin.lenOf bB).run P w=.ok n w){us:List Value}
  (rD:(Builtin.firstCells i.size n bB).run P w=.ok ⟨us⟩ w)(hle:sLen+n<=sCap):
  (Builtin.append_ argTypes ty #[.slice base sLen sCap,bB]).run P w=match base with
   |some a=>((_root_.Go.storeCells (a.add (sLen*i.size)) us).run P w).andThen λ_ w'=>.ok (.slice base (sLen+n) sCap) w'
   |none=>.ok (.slice base (sLen+n) sCap) w:=by
 have bx:∀w:World,(_root_.Go.sizeOf e).run P w=.ok i.size w:=λw=>by simp[_root_.Go.sizeOf,run_typeInfo af]
 cases xT with
 |none=>
  cases base<;>simp only[Builtin.append_,h0,ab,List.getElem?_toArray,List.getElem?_cons_zero,List.getElem?_cons_succ,Sem.run_bind,bX hu,Result.andThen_ok,bx,Sem.run_pure,aw,Bool.false_eq_true,if_false,if_pos hle,Bool.not_false,if_true,rD]
 |some C6=>
  simp only[o4] at aa
  cases ao:P.underlying C6 with
  |none=>rw[ao] at aa;cases aa
  |some d=>
   rw[ao] at aa
   cases d<;>first
   |(cases aa;done)
   |cases base<;>simp only[Builtin.append_,h0,ab,List.getElem?_toArray,List.getElem?_cons_zero,List.getElem?_cons_succ,Sem.run_bind,bX hu,bX ao,Result.andThen_ok,bx,Sem.run_pure,aw,Bool.false_eq_true,if_false,if_pos hle,Bool.not_false,if_true,rD]
theorem P4{l:List I}(h:l.all I.cT=true):∀a∈l,a.cT=true:=λa aT=>List.all_eq_true.1 h a aT
theorem C7(ak:bt μ H w){sT e:TypeId}{xT:Option TypeId}{i:TypeInfo}{z:I}{argTypes:Array TypeId}{ty:TypeId}(h0:argTypes[0]? =some sT)(ab:argTypes[1]? =xT)(hu:P.underlying sT=some (.slice e))(aa:o4 P xT=true)
  (af:P.info? e=some i)(a2:ei P e=some z){base:Option Addr}{sLen sCap n:Nat}{x:I}{bB:Value}(Ah:bm μ x bB){cs:List I}(fD:fV H i.size x=some (n,cs)){old:List I}
  (hold:∃us:List Value,(Builtin.firstCells i.size sLen (.slice base sLen sCap)).run P w.drew=.ok ⟨us⟩ w.drew/\cf μ old us)(xC:old.length=sLen*i.size)(hQ:cs.length=n*i.size)(cd:sCap<sLen+n){v:I}{H1 aW:J}(iT:bt μ H1 w)(P5:cb μ H w μ H1 w)
  {fz:Nat}(al:ku H1 e i.bytes i.size (sLen+n) z (old++cs) fz=some (v,aW)):eW P μ H w (Builtin.append_ argTypes ty #[.slice base sLen sCap,bB]) v aW:=by
 obtain⟨fv,HV,rfl,ae⟩:=lS (P:=P) (w:=w) a2
 have P6:∀w:World,(zeroValue e).run P w=.ok fv w:=λw=>by
  unfold ei at a2
  simp only[af] at a2
  cases HW:i.zero with
  |none=>rw[HW] at a2;cases a2
  |some C8=>
   have a8:∀w:World,(zeroValue e).run P w=.ok C8 w:=λw=>by simp[zeroValue,run_typeInfo af,HW]
   rw[a8] at HV
   cases HV
   exact a8 w
 obtain⟨aw,us,iU,lq⟩:=Ae (P:=P) ak Ah fD
 obtain⟨_,rE,P7,HX⟩:=Ae (P:=P) ak.drew Ah fD
 obtain⟨os,xl,HY⟩:=hold
 unfold ku at al
 split at al
 · rename_i ag
   simp only[Bool.and_eq_true] at ag
   obtain⟨⟨pr,nv⟩,en⟩:=ag
   cases al
   obtain⟨lU,C9,P8⟩:=P1 (P:=P) (w:=w) (ty:=ty) h0 ab hu aa af P6 aw xl P7 cd pr
   have ik:=(j9 μ fv).cells ae
   have P9:=Nat.eq_of_beq_eq_true nv
   have P_:fv.cells.size=i.size:=by have:=ik.length;rw[P9] at this;simpa using this.symm
   have Qa:cf μ (old++cs) (os++rE):=HY.append HX
   have Qb:os.length=sLen*i.size:=by rw[<-HY.length,xC]
   have Qc:rE.length=n*i.size:=by rw[<-HX.length,hQ]
   have hmul:(sLen+n)*i.size=sLen*i.size+n*i.size:=Nat.add_mul _ _ _
   have HZ:lU*i.size=(sLen+n)*i.size+(lU-(sLen+n))*i.size:=by rw[<-Nat.add_mul,Nat.add_sub_of_le C9]
   have Qd:0+lU*i.size=((⟨os⟩:Array Value)++⟨rE⟩++Builtin.zeroCells fv.cells (lU-(sLen+n))).size:=by
    have a8:(⟨os⟩:Array Value).size=sLen*i.size:=Qb
    have a6:(⟨rE⟩:Array Value).size=n*i.size:=Qc
    have b4:(Builtin.zeroCells fv.cells (lU-(sLen+n))).size=(lU-(sLen+n))*i.size:=by
     unfold Builtin.zeroCells;rw[Array.size_map,Array.size_range,P_]
    rw[Array.size_append,Array.size_append,a8,a6,b4,HZ,hmul]
    omega
   have hle:=iT.drew.oc ⟨w.heap.size,0,lU*i.size⟩
   obtain⟨r1,r2⟩:=iT.drew.alloc (.cells (old++cs) e .a1 0 fz) (.cells (⟨os⟩++⟨rE⟩++Builtin.zeroCells fv.cells (lU-(sLen+n))) e) (lU*i.size)
    ⟨_,0,0,World.heap_alloc_new _ _,λj a aJ=>by
      obtain⟨u,mD,aj⟩:=Qa.get aJ
      refine⟨u,?_,aj.mono hle⟩
      have u4:j<(os++rE).length:=by
       rcases Nat.lt_or_ge j (os++rE).length with h|h
       · exact h
       · rw[List.getElem?_eq_none h] at mD;cases mD
      rw[Nat.zero_add,Array.getElem?_append_left (by simpa using u4)]
      simpa using mD,Qd,by
      refine⟨?_,λj _ _ h=>by omega⟩
      simp[xC,hQ];omega⟩
   refine⟨_,_,_,P8,⟨_,gw _ _ _,lU,rfl,C9,by simp⟩,r1,?_⟩
   exact P5.trans ak iT (cb.drew.trans iT iT.drew r2)
 · cases al
end
end aP
