/-
  THE ABSTRACT EVALUATOR (the evaluator's definitions; values and memory): a deterministic semantics of loaded code, and the proof that its runs are runs of the program in the model, whatever the tape draws. No condition.
-/
import GoSem.Step
import Derived.Calls
import Derived.Laws.Sem
import Derived.Laws.World
set_option linter.unusedVariables false
set_option linter.unusedSimpArgs false
namespace aM
open Go
inductive b3 where
 |exact(n:Nat)
 |a1 (gz:Nat)
 |dead
inductive I where
 |bad
 |bool (b:Bool)
 |int (k:IntKind) (n:Int)
 |str (s:List UInt8)
 |bb
 |ptr (b off:Nat)
 |a0
 |slice (b off len:Nat) (cap:b3)
 |hW
 |map (r:Nat)
 |fL
 |fn (f:Nat) (first aR:List I)
 |dd (l:Nat)
 |eS
 |iface (t:Nat) (v:I)
 |agg (cs:List I)
 |aP (vs:List I)
 deriving Inhabited
def I.cQ:I->Bool
 |.bad|.agg _|.aP _=>false
 |_=>true
def I.cells:I->List I
 |.agg cs=>cs
 |v=>[v]
inductive h8 where
 |here|l (p:h8)|r (p:h8)
inductive aY where
 |leaf
 |node (l:aY) (v:I) (r:aY)
def wG:Nat->Nat->h8
 |0,_=>.here
 |f+1,n=>match n with
  |0=>.here
  |m+1=>match Nat.mod m 2 with
   |0=>.l (wG f (Nat.div m 2))
   |_=>.r (wG f (Nat.div m 2))
def gU(n:Nat):h8:=wG n n
def aY.get:h8->aY->I
 |.here,.node _ v _=>v
 |.l p,.node l _ _=>get p l
 |.r p,.node _ _ r=>get p r
 |_,.leaf=>.bad
def aY.Cm(l:aY)(v:I)(r:aY):aY:=match l with
 |.leaf=>.node .leaf v r
 |.node a b c=>.node (.node a b c) v r
def aY.Cn(l:aY)(v:I)(r:aY):aY:=match r with
 |.leaf=>.node l v .leaf
 |.node a b c=>.node l v (.node a b c)
def aY.set:h8->I->aY->aY
 |.here,x,.node l _ r=>.node l x r
 |.here,x,.leaf=>.node .leaf x .leaf
 |.l p,x,.node l v r=>aY.Cm (set p x l) v r
 |.l p,x,.leaf=>aY.Cm (set p x .leaf) .bad .leaf
 |.r p,x,.node l v r=>aY.Cn l v (set p x r)
 |.r p,x,.leaf=>aY.Cn .leaf .bad (set p x .leaf)
inductive gE where
 |own|a1|ro|fz
 deriving DecidableEq
structure dK where
 key:I
 val:I
 born:Nat
inductive bQ where
 |call (f:Nat) (args:List I)
 |collected (r:Nat)
inductive da where
 |cells (cs:List I) (el:Nat) (k:gE) (aN af:Nat)
 |map (es:List dK) (clock:Nat)
 |qL (s:List UInt8) (pos:Nat)
 |mapIter (m:Option Nat) (since:Nat) (seen:List Nat) (last:Nat)
 |loop (st:LoopState) (fM:Option Code) (fn:Nat) (mb:aY) (params:List Nat) (assign body:Code) (defers:Nat)
 |defrd (calls:Option (List bQ))
 |raw (o:Obj)
inductive e0 where
 |leaf
 |node (l:e0) (v:Option da) (r:e0)
def e0.get:e0->Nat->Option da
 |.leaf,_=>none
 |.node l v r,n=>match n with
  |0=>v
  |m+1=>match Nat.mod m 2 with
   |0=>get l (Nat.div m 2)
   |_=>get r (Nat.div m 2)
def e0.k5:Nat->e0->Nat->Option da->e0
 |0,t,_,_=>t
 |f+1,.leaf,n,x=>match n with
  |0=>.node .leaf x .leaf
  |m+1=>match Nat.mod m 2 with
   |0=>.node (k5 f .leaf (Nat.div m 2) x) none .leaf
   |_=>.node .leaf none (k5 f .leaf (Nat.div m 2) x)
 |f+1,.node l v r,n,x=>match n with
  |0=>.node l x r
  |m+1=>match Nat.mod m 2 with
   |0=>.node (k5 f l (Nat.div m 2) x) v r
   |_=>.node l v (k5 f r (Nat.div m 2) x)
structure J where
 t:e0
 n:Nat
def J.get(h:J)(b:Nat):Option da:=h.t.get b
def J.set(h:J)(b:Nat)(o:Option da):J:=⟨e0.k5 (b+1) h.t b o,h.n⟩
def J.push(h:J)(o:da):J:=⟨e0.k5 (h.n+1) h.t h.n (some o),h.n+1⟩
inductive iX where
 |val (v:I) (h:J)
 |b4 (v:I) (h:J)
 |call (f:Nat) (args:List I) (h:J)
 |dd (l:Nat) (args:List I) (h:J)
 |k6 (d:bQ)
 |sm
 |fail (iY:String)
inductive av where
 |ret (v:I) (h:J)
 |b4 (v:I) (h:J)
 |fail (iY:String)
mutual
def nO:Value->I
 |.bool b=>.bool b
 |.int k n=>.int k n
 |.string s=>.str s.data.toList
 |.pointer none=>.bb
 |.slice none 0 0=>.a0
 |.map none=>.hW
 |.nilFunc=>.fL
 |.nilIface=>.eS
 |.agg ⟨cs⟩=>.agg (zv cs)
 |.tuple ⟨vs⟩=>.aP (zv vs)
 |_=>.bad
def zv:List Value->List I
 |[]=>[]
 |v::vs=>nO v::zv vs
end
def nth{α:Type}:Nat->List α->Option α
 |_,[]=>none
 |0,a::_=>some a
 |n+1,_::l=>nth n l
def takeN:Nat->List I->Option (List I)
 |0,_=>some []
 |_+1,[]=>none
 |n+1,a::l=>match takeN n l with
  |some r=>some (a::r)
  |none=>none
def jn{α:Type}:Nat->List α->List α
 |0,l=>l
 |_+1,[]=>[]
 |n+1,_::l=>jn n l
def dF:List UInt8->List UInt8->Bool
 |[],[]=>true
 |a::x,b::y=>match Nat.beq a.toNat b.toNat with
  |true=>dF x y
  |false=>false
 |_,_=>false
def dB:List UInt8->List UInt8->Bool
 |_,[]=>false
 |[],_::_=>true
 |a::x,b::y=>match Nat.beq a.toNat b.toNat with
  |true=>dB x y
  |false=>Nat.blt a.toNat b.toNat
def bM(x y:Int):Bool:=decide (x<y)
def fb(x y:Int):Bool:=decide (x<=y)
def a8(x y:Int):Bool:=x==y
def loadCells(h:J)(b off n:Nat):Option (List I):=
 match h.get b with
 |some (.cells cs _ _ _ _)=>takeN n (jn off cs)
 |_=>none
def au(h:J)(b off:Nat):Option I:=
 match h.get b with
 |some (.cells cs _ _ _ _)=>nth off cs
 |_=>none
def kH(k:gE)(aN af off n:Nat):Bool:=
 match k with
 |.ro|.fz=>false
 |_=>Nat.ble af aN||Nat.ble (off+n) aN||Nat.ble af off
def fN:Nat->List I->List I->Option (List I)
 |0,[],cs=>some cs
 |0,_::_,[]=>none
 |0,v::vs,_::cs=>match v.cQ with
  |true=>match fN 0 vs cs with
   |some r=>some (v::r)
   |none=>none
  |false=>none
 |_+1,[],cs=>some cs
 |_+1,_::_,[]=>none
 |n+1,vs,c::cs=>match fN n vs cs with
  |some r=>some (c::r)
  |none=>none
def storeCells(h:J)(b off:Nat)(vs:List I):Option J:=
 match h.get b with
 |some (.cells cs el k aN af)=>
  match kH k aN af off vs.length with
  |true=>match fN off vs cs with
   |some bN=>some (h.set b (some (.cells bN el k aN af)))
   |none=>none
  |false=>none
 |_=>none
def newRow(h:J)(el:Nat)(cs:List I):Option (Nat×J):=
 match cs.all I.cQ with
 |true=>some (h.n,h.push (.cells cs el .own 0 0))
 |false=>none
def pK(P:Program)(t:TypeId):Option Bool:=
 match P.underlying t with
 |some (.struct _)=>some true
 |some (.array _ _)=>some true
 |some _=>some false
 |none=>none
def dh(P:Program)(t:TypeId):Option Nat:=match P.info? t with
 |some i=>some i.size
 |none=>none
def d_(P:Program)(t:TypeId):Option I:=match P.info? t with
 |some i=>match i.zero with
  |some z=>match nO z with
   |.bad=>none
   |a=>some a
  |none=>none
 |none=>none
def iI(P:Program)(t:TypeId)(cs:List I)(off:Nat):Option I:=
 match pK P t,dh P t with
 |some true,some n=>match takeN n (jn off cs) with
  |some r=>some (.agg r)
  |none=>none
 |some false,_=>nth off cs
 |_,_=>none
def jE(place:Nat->Option (Nat×Nat))(cells:List I):List (Nat×I)->Option (List I)
 |[]=>some cells
 |(i,v)::rest=>
  match v with
  |.bad=>none
  |v=>match place i with
   |none=>none
   |some (off,size)=>
    match Nat.beq v.cells.length size&&Nat.ble (off+size) cells.length with
    |true=>match fN off v.cells cells with
     |some Ox=>jE place Ox rest
     |none=>none
    |false=>none
def fc{α:Type}:Nat->List α->List α
 |0,_=>[]
 |n+1,l=>l++fc n l
def eqFields(P:Program)(E:TypeId->I->I->Option Bool)(xs ys:List I):List Field->Option Bool
 |[]=>some true
 |f::bR=>match decide (f.name= "_") with
  |true=>eqFields P E xs ys bR
  |false=>match iI P f.type xs f.offset,iI P f.type ys f.offset with
   |some a,some b=>match E f.type a b with
    |some true=>eqFields P E xs ys bR
    |r=>r
   |_,_=>none
def wH(P:Program)(E:TypeId->I->I->Option Bool)(e:TypeId)(sz:Nat)(xs ys:List I):Nat->Nat->Option Bool
 |0,_=>some true
 |n+1,i=>match iI P e xs (i*sz),iI P e ys (i*sz) with
  |some a,some b=>match E e a b with
   |some true=>wH P E e sz xs ys n (i+1)
   |r=>r
  |_,_=>none
def Co(h:J)(a i b j:Nat):Option Bool:=
 match Nat.beq a b with
 |true=>some (Nat.beq i j)
 |false=>match h.get a,h.get b with
  |some (.cells _ _ .own 0 0),some (.cells _ _ .own 0 0)=>some false
  |_,_=>none
def fO(P:Program)(h:J):Nat->TypeId->I->I->Option Bool
 |0,_,_,_=>none
 |d+1,t,x,y=>
  match P.underlying t with
  |none=>none
  |some .bool=>match x,y with
   |.bool a,.bool b=>some (a==b)
   |_,_=>none
  |some (.int _)=>match x,y with
   |.int j a,.int k b=>if j=k then some (a8 a b) else none
   |_,_=>none
  |some .string=>match x,y with
   |.str a,.str b=>some (dF a b)
   |_,_=>none
  |some (.pointer e)=>match x,y with
   |.bb,.bb=>some true
   |.bb,.ptr _ _=>some false
   |.ptr _ _,.bb=>some false
   |.ptr a i,.ptr b j=>match dh P e with
    |some (_+1)=>Co h a i b j
    |_=>none
   |_,_=>none
  |some (.slice _)=>match x,y with
   |.a0,.a0=>some true
   |.a0,.slice _ _ _ _=>some false
   |.slice _ _ _ _,.a0=>some false
   |_,_=>none
  |some (.map _ _)=>match x,y with
   |.hW,.hW=>some true
   |.hW,.map _=>some false
   |.map _,.hW=>some false
   |_,_=>none
  |some (.func _ _ _)=>match x,y with
   |.fL,.fL=>some true
   |.fL,.fn _ _ _=>some false
   |.fn _ _ _,.fL=>some false
   |_,_=>none
  |some (.interface _)=>match x,y with
   |.eS,.eS=>some true
   |.eS,.iface _ _=>some false
   |.iface _ _,.eS=>some false
   |.iface a v,.iface b w=>match Nat.beq a b with
    |false=>some false
    |true=>match P.info? a with
     |some i=>match i.comparable with
      |true=>fO P h d a v w
      |false=>none
     |none=>none
   |_,_=>none
  |some (.struct bR)=>match x,y with
   |.agg xs,.agg ys=>match P.stoodInHeld t with
    |true=>none
    |false=>eqFields P (fO P h d) xs ys bR.toList
   |_,_=>none
  |some (.array n e)=>match x,y with
   |.agg xs,.agg ys=>match dh P e with
    |some sz=>wH P (fO P h d) e sz xs ys n 0
    |none=>none
   |_,_=>none
  |some _=>none
def qM(P:Program)(t:TypeId)(x y:Operand)(a b:I):Bool:=
 match a,b with
 |.eS,.eS=>(x matches .const _)||(y matches .const _)
 |.agg _,.agg _=>!P.eqGuardType P.depth t
 |_,_=>true
def arith(op:BinOp)(k:IntKind)(x y:Int):Option I:=
 match op with
 |.add=>some (.int k (k.wrap (x+y)))
 |.sub=>some (.int k (k.wrap (x-y)))
 |.mul=>some (.int k (k.wrap (x*y)))
 |.quo=>if y=0 then none else some (.int k (k.wrap (x.tdiv y)))
 |.rem=>if y=0 then none else some (.int k (x.tmod y))
 |.and=>some (.int k (k.wrap (BitVec.ofInt k.bits x&&&BitVec.ofInt k.bits y).toNat))
 |.or=>some (.int k (k.wrap (BitVec.ofInt k.bits x|||BitVec.ofInt k.bits y).toNat))
 |.xor=>some (.int k (k.wrap (BitVec.ofInt k.bits x^^^BitVec.ofInt k.bits y).toNat))
 |.andNot=>some (.int k (k.wrap (BitVec.ofInt k.bits x&&& ~~~BitVec.ofInt k.bits y).toNat))
 |.eql=>some (.bool (a8 x y))
 |.neq=>some (.bool (!a8 x y))
 |.lss=>some (.bool (bM x y))
 |.leq=>some (.bool (fb x y))
 |.gtr=>some (.bool (bM y x))
 |.geq=>some (.bool (fb y x))
 |_=>none
def qN(op:BinOp)(k:IntKind)(x y:Int):Option I:=
 if y<0 then none else
 match op with
 |.shl=>some (.int k (k.wrap (x*2^(min y.toNat k.bits))))
 |.shr=>some (.int k (x.fdiv (2^(min y.toNat k.bits))))
 |_=>none
def gA(op:BinOp)(x y:List UInt8):Option I:=
 match op with
 |.add=>if((x.length+y.length:Nat):Int)>IntKind.i64.max then none else some (.str (x++y))
 |.eql=>some (.bool (dF x y))
 |.neq=>some (.bool (!dF x y))
 |.lss=>some (.bool (dB x y))
 |.leq=>some (.bool (!dB y x))
 |.gtr=>some (.bool (dB y x))
 |.geq=>some (.bool (!dB x y))
 |_=>none
def eB(P:Program)(h:J)(op:BinOp)(t:TypeId)(kf kg:Operand)(x y:I):Option I:=
 match x,y with
 |.int k a,.int ea b=>
  match op with
  |.shl|.shr=>qN op k a b
  |_=>if k=ea then arith op k a b else none
 |.str a,.str b=>gA op a b
 |x,y=>
  match op with
  |.eql=>if qM P t kf kg x y then(match fO P h 100 t x y with
   |some b=>some (.bool b)
   |none=>none) else none
  |.neq=>if qM P t kf kg x y then(match fO P h 100 t x y with
   |some b=>some (.bool (!b))
   |none=>none) else none
  |_=>none
def eC:I->Option Nat
 |.int _ (.ofNat n)=>some n
 |_=>none
def g8(d:Nat):Option I->Option Nat
 |none=>some d
 |some v=>eC v
def bounds(len cap:Nat)(aN af mx:Option I):Option (Nat×Nat×Nat):=
 match g8 cap mx with
 |none=>none
 |some m=>match Nat.ble m cap with
  |false=>none
  |true=>match(match af,mx with
     |none,none=>some len
     |none,some _=>none
     |some v,_=>eC v) with
   |none=>none
   |some ai=>match Nat.ble ai m with
    |false=>none
    |true=>match g8 0 aN with
     |none=>none
     |some l=>match Nat.ble l ai with
      |false=>none
      |true=>some (l,ai,m)
def de(P:Program)(h:J)(t:TypeId)(x:I)(aN af mx:Option I):Option I:=
 match P.underlying t,x with
 |some .string,.str s=>match mx with
  |some _=>none
  |none=>match bounds s.length s.length aN af none with
   |some (l,ai,_)=>some (.str (List.take (ai-l) (jn l s)))
   |none=>none
 |some (.slice e),.a0=>match dh P e,bounds 0 0 aN af mx with
  |some _,some _=>some .a0
  |_,_=>none
 |some (.slice e),.slice b off len (.exact cap)=>match dh P e,bounds len cap aN af mx with
  |some sz,some (l,ai,m)=>some (.slice b (if m=l then off else off+l*sz) (ai-l) (.exact (m-l)))
  |_,_=>none
 |some (.slice e),.slice b off len (.a1 gz)=>match dh P e with
  |some sz=>if sz=gz then(match mx with
   |none=>match bounds len len aN af none with
    |some (l,ai,_)=>if l=0 then some (.slice b off ai (.a1 gz)) else if Nat.blt l len then some (.slice b (off+l*sz) (ai-l) (.a1 gz)) else some (.slice b off 0 .dead)
    |none=>none
   |some _=>match bounds len len aN af mx with
    |some (l,ai,m)=>some (.slice b (if m=l then off else off+l*sz) (ai-l) (.exact (m-l)))
    |none=>none) else none
  |none=>none
 |some (.slice e),.slice b off len .dead=>match dh P e,bounds 0 0 aN af mx with
  |some _,some _=>some (.slice b off 0 .dead)
  |_,_=>none
 |some (.array n e),.ptr b off=>match dh P e,bounds n n aN af mx with
  |some sz,some (l,ai,m)=>some (.slice b (if m=l then off else off+l*sz) (ai-l) (.exact (m-l)))
  |_,_=>none
 |some (.pointer arr),.ptr b off=>match P.underlying arr with
  |some (.array n e)=>match dh P e,bounds n n aN af mx with
   |some sz,some (l,ai,m)=>some (.slice b (if m=l then off else off+l*sz) (ai-l) (.exact (m-l)))
   |_,_=>none
  |_=>none
 |_,_=>none
def b9(P:Program)(h:J)(t:TypeId)(x:I):Option I:=
 match P.underlying t,x with
 |some .string,.str s=>some (.int .i64 (Int.ofNat s.length))
 |some (.array n _),_=>some (.int .i64 (Int.ofNat n))
 |some (.slice _),.slice _ _ n _=>some (.int .i64 (Int.ofNat n))
 |some (.slice _),.a0=>some (.int .i64 0)
 |some (.map _ _),.hW=>some (.int .i64 0)
 |some (.map _ _),.map r=>match h.get r with
  |some (.map es _)=>some (.int .i64 (Int.ofNat es.length))
  |_=>none
 |some (.pointer a),_=>match P.underlying a with
  |some (.array n _)=>some (.int .i64 (Int.ofNat n))
  |_=>none
 |_,_=>none
def uk(P:Program)(t:TypeId)(x:I):Option I:=
 match P.underlying t,x with
 |some (.array n _),_=>some (.int .i64 (Int.ofNat n))
 |some (.slice _),.slice _ _ _ (.exact n)=>some (.int .i64 (Int.ofNat n))
 |some (.slice _),.a0=>some (.int .i64 0)
 |_,_=>none
def c8:List UInt8->List I
 |[]=>[]
 |b::l=>.int .u8 (Int.ofNat b.toNat)::c8 l
def fP(h:J)(size:Nat):I->Option (Nat×List I)
 |.a0=>some (0,[])
 |.str s=>match size with
  |1=>some (s.length,c8 s)
  |_=>none
 |.slice b off len .dead=>if len=0 then some (0,[]) else none
 |.slice b off len _=>match loadCells h b off (len*size) with
  |some cs=>some (len,cs)
  |none=>none
 |_=>none
def kI(need bytes:Nat):Bool:=Nat.ble ((4*need+2048)*(bytes+1)) 281474976710656
def oG(P:Program):Option TypeId->Bool
 |none=>true
 |some t=>match P.underlying t with
  |some (.int _)=>false
  |some _=>true
  |none=>false
def kh(h:J)(e bytes size need:Nat)(z:I)(cs:List I)(fz:Nat):Option (I×J):=
 match kI need bytes&&Nat.beq z.cells.length size&&cs.all I.cQ with
 |true=>some (.slice h.n 0 need (.a1 size),h.push (.cells cs e .a1 0 fz))
 |false=>none
def dy(P:Program)(h:J)(sT:TypeId)(xT:Option TypeId)(s x:I):Option (I×J):=
 match P.underlying sT,oG P xT with
 |some (.slice e),true=>
  match P.info? e,d_ P e with
  |some i,some z=>
   match fP h i.size x with
   |none=>none
   |some (n,cs)=>
    match s with
    |.a0=>match n with
     |0=>some (.a0,h)
     |_=>kh h e i.bytes i.size n z cs 0
    |.slice b off len (.exact cap)=>
     match Nat.ble (len+n) cap with
     |true=>match n with
      |0=>some (.slice b off len (.exact cap),h)
      |_=>match storeCells h b (off+len*i.size) cs with
       |some an=>some (.slice b off (len+n) (.exact cap),an)
       |none=>none
     |false=>match loadCells h b off (len*i.size) with
      |some old=>kh h e i.bytes i.size (len+n) z (old++cs) 0
      |none=>none
    |.slice b off len (.a1 gz)=>
     match Nat.beq gz i.size&&Nat.blt 0 gz with
     |true=>match n with
      |0=>some (s,h)
      |_=>match h.get b with
       |some (.cells old el .a1 aN af)=>
        match Nat.ble (off+(len+n)*gz) old.length with
        |true=>match storeCells h b (off+len*gz) cs with
         |some an=>some (.slice b off (len+n) (.a1 gz),an)
         |none=>none
        |false=>match Nat.ble af (off+len*gz)&&Nat.beq el e,loadCells h b off (len*gz) with
         |true,some o=>kh (h.set b none) e i.bytes i.size (len+n) z (o++cs) (af-off)
         |_,_=>none
       |_=>none
     |false=>none
    |_=>none
  |_,_=>none
 |_,_=>none
def um(P:Program)(h:J)(zw:TypeId)(d s:I):Option (I×J):=
 match P.underlying zw with
 |some (.slice e)=>match dh P e with
  |some sz=>match fP h sz s with
   |some (n,cs)=>match d with
    |.a0=>some (.int .i64 0,h)
    |.slice b off len _=>
     let m:=Nat.min n len
     if m=0 then some (.int .i64 0,h) else
     match takeN (m*sz) cs with
     |some bN=>match storeCells h b off bN with
      |some an=>some (.int .i64 (Int.ofNat m),an)
      |none=>none
     |none=>none
    |_=>none
   |none=>none
  |none=>none
 |_=>none
def oH(P:Program)(h:J)(t:TypeId)(x:I):Option (I×J):=
 match P.underlying t,x with
 |some (.map _ _),.hW=>some (.aP [],h)
 |some (.slice _),.a0=>some (.aP [],h)
 |some (.map _ _),.map r=>match h.get r with
  |some (.map _ c)=>some (.aP [],h.set r (some (.map [] c)))
  |_=>none
 |some (.slice e),.slice b off n _=>if n=0 then some (.aP [],h) else
  match d_ P e with
  |some z=>match storeCells h b off (fc n z.cells) with
   |some an=>some (.aP [],an)
   |none=>none
  |none=>none
 |_,_=>none
def pL:I->I->Option I
 |.int k x,.int ea y=>if k=ea then some (.int k (if bM y x then y else x)) else none
 |_,_=>none
def qO:I->I->Option I
 |.int k x,.int ea y=>if k=ea then some (.int k (if bM x y then y else x)) else none
 |_,_=>none
def k7(f:I->I->Option I):I->List I->Option I
 |x,[]=>some x
 |x,y::l=>match f x y with
  |some z=>k7 f z l
  |none=>none
def m0:List I->Option (List UInt8)
 |[]=>some []
 |.int .u8 (.ofNat n)::l=>match Nat.blt n 256,m0 l with
  |true,some r=>some (UInt8.ofNat n::r)
  |_,_=>none
 |_=>none
def oI(P:Program)(h:J)(pT:TypeId)(p n:I):Option (I×J):=
 match p,eC n with
 |.bb,some 0=>some (.str [],h)
 |.ptr b off,some n=>if n=0 then some (.str [],h) else
  match P.underlying pT,h.get b with
  |some (.pointer u),some (.cells cs el k aN af)=>
   if P.underlyingId el=P.underlyingId u&&dh P el=some 1&&Nat.ble n 281474976710656&&decide (k≠ .ro) then
    (match takeN n (jn off cs) with
    |some r=>match m0 r with
     |some bs=>some (.str bs,h.set b (some (.cells cs el .fz aN af)))
     |none=>none
    |none=>none) else none
  |_,_=>none
 |_,_=>none
def nP(P:Program)(kt:TypeId)(k:I):Bool:=
 match P.underlying kt with
 |some (.int _)=>match k with
  |.int _ _=>true
  |_=>false
 |some .string=>match k with
  |.str _=>true
  |_=>false
 |some .bool=>match k with
  |.bool _=>true
  |_=>false
 |_=>false
def zx(P:Program)(cs:List I):List Field->Bool
 |[]=>true
 |f::bR=>match iI P f.type cs f.offset with
  |some a=>match nP P f.type a with
   |true=>zx P cs bR
   |false=>false
  |none=>false
def zy(P:Program)(e:TypeId)(sz:Nat)(cs:List I):Nat->Nat->Bool
 |0,_=>true
 |n+1,i=>match iI P e cs (i*sz) with
  |some a=>match nP P e a with
   |true=>zy P e sz cs n (i+1)
   |false=>false
  |none=>false
def lB(P:Program)(kt:TypeId)(k:I):Bool:=
 match k with
 |.agg cs=>match P.underlying kt with
  |some (.struct bR)=>zx P cs bR.toList
  |some (.array n e)=>match dh P e with
   |some sz=>zy P e sz cs n 0
   |none=>false
  |_=>false
 |k=>nP P kt k
def oJ:I->I->Option Bool
 |.int j a,.int k b=>if j=k then some (a8 a b) else none
 |.str a,.str b=>some (dF a b)
 |.bool a,.bool b=>some (a==b)
 |_,_=>none
def wI:List I->List I->Bool
 |[],[]=>true
 |a::l,b::m=>match oJ a b with
  |some true=>wI l m
  |_=>false
 |_,_=>false
def qP(k x:I):Bool:=match k,x with
 |.agg a,.agg b=>wI a b
 |.agg _,_=>false
 |_,_=>true
def oK(P:Program)(h:J)(kt:TypeId)(k x:I):Option Bool:=match k with
 |.agg cs=>fO P h 8 kt (.agg cs) x
 |k=>oJ k x
def jo(P:Program)(h:J)(kt:TypeId)(k:I):List dK->Nat->Option (Option (Nat×I))
 |[],_=>some none
 |e::es,i=>match oK P h kt k e.key with
  |some true=>some (some (i,e.val))
  |some false=>jo P h kt k es (i+1)
  |none=>none
def wJ(i:Nat)(es:List dK):I:=match nth i es with
 |some e=>e.key
 |none=>.bad
def pM(v:I)(key:I):Nat->List dK->List dK
 |_,[]=>[]
 |0,e::es=>⟨key,v,e.born⟩::es
 |n+1,e::es=>e::pM v key n es
def oL(P:Program)(iZ:TypeId)(ok:Bool):Option (Nat×I)->Option I
 |some (_,v)=>some (if ok then .aP [v,.bool true] else v)
 |none=>match d_ P iZ with
  |some z=>some (if ok then .aP [z,.bool false] else z)
  |none=>none
def h9(P:Program)(h:J)(t:TypeId)(m k:I)(ok:Bool):Option I:=
 match P.underlying t with
 |some (.map kt iZ)=>match lB P kt k with
  |true=>match m with
   |.hW=>oL P iZ ok none
   |.map r=>match h.get r with
    |some (.map es _)=>match jo P h kt k es 0 with
     |some r=>oL P iZ ok r
     |none=>none
    |_=>none
   |_=>none
  |false=>none
 |_=>none
def uo(P:Program)(h:J)(t:TypeId)(m k v:I):Option J:=
 match P.underlying t with
 |some (.map kt _)=>match lB P kt k with
  |true=>match m with
   |.map r=>match h.get r with
    |some (.map es clock)=>match jo P h kt k es 0 with
     |some (some (i,_))=>match qP k (wJ i es) with
      |true=>some (h.set r (some (.map (pM v k i es) clock)))
      |false=>none
     |some none=>some (h.set r (some (.map (es++[⟨k,v,clock⟩]) (clock+1))))
     |none=>none
    |_=>none
   |_=>none
  |false=>none
 |_=>none
def oM(P:Program)(h:J)(t:TypeId)(m k:I):Option (I×J):=
 match P.underlying t with
 |some (.map kt iZ)=>match lB P kt k with
  |true=>match m with
   |.map r=>match h.get r with
    |some (.map es clock)=>match jo P h kt k es 0 with
     |some (some (i,v))=>match nth i es with
      |some e=>match qP k e.key with
       |true=>some (.aP [v,.int .i64 (Int.ofNat e.born)],h.set r (some (.map (pM v k i es) clock)))
       |false=>none
      |none=>none
     |some none=>match d_ P iZ with
      |some z=>some (.aP [z,.int .i64 (Int.ofNat clock)],h.set r (some (.map (es++[⟨k,z,clock⟩]) (clock+1))))
      |none=>none
     |none=>none
    |_=>none
   |_=>none
  |false=>none
 |_=>none
def sn(born:Int):List dK->Nat->Option (Nat×dK)
 |[],_=>none
 |e::es,i=>match a8 (Int.ofNat e.born) born with
  |true=>some (i,e)
  |false=>sn born es (i+1)
def oN(h:J)(m s v:I):Option J:=
 match m,s with
 |.map r,.int _ born=>match h.get r with
  |some (.map es clock)=>match sn born es 0 with
   |some (i,e)=>some (h.set r (some (.map (pM v e.key i es) clock)))
   |none=>none
  |_=>none
 |_,_=>none
def wK:Nat->List dK->List dK
 |_,[]=>[]
 |0,_::es=>es
 |n+1,e::es=>e::wK n es
def oO(P:Program)(h:J)(t:TypeId)(m k:I):Option (I×J):=
 match P.underlying t with
 |some (.map kt _)=>match lB P kt k with
  |true=>match m with
   |.hW=>some (.aP [],h)
   |.map r=>match h.get r with
    |some (.map es clock)=>match jo P h kt k es 0 with
     |some (some (i,_))=>some (.aP [],h.set r (some (.map (wK i es) clock)))
     |some none=>some (.aP [],h.set r (some (.map es clock)))
     |none=>none
    |_=>none
   |_=>none
  |false=>none
 |_=>none
def Cp(s:List UInt8):Nat×Nat:=Utf8.decode ⟨s.toArray⟩ 0
def zz(h:J)(it:I)(isStr:Bool):Option (I×J):=
 match it with
 |.ptr r 0=>match h.get r,isStr with
  |some (.qL s pos),true=>
   (match s with
   |[]=>some (.aP [.bool false],h)
   |s=>let(c,w):=Cp s
    some (.aP [.bool true,.int .i64 (Int.ofNat pos),.int .i32 (Int.ofNat c)],h.set r (some (.qL (jn w s) (pos+w)))))
  |some (.mapIter none _ _ _),false=>some (.aP [.bool false],h)
  |_,_=>none
 |_=>none
def so(b:Nat):List dK->Option dK
 |[]=>none
 |e::l=>match Nat.beq e.born b with
  |true=>some e
  |false=>so b l
def wL:List Nat->Option Nat
 |[]=>none
 |[b]=>some b
 |_::b::l=>wL (b::l)
def sq(h:J)(it:I):Option I:=
 match it with
 |.ptr r 0=>match h.get r with
  |some (.mapIter (some m) _ seen last)=>match h.get m,wL seen with
   |some (.map es clock),some b=>match Nat.beq clock last with
    |true=>match so b es with
     |some e=>some (.aP [e.key,e.val])
     |none=>none
    |false=>none
   |_,_=>none
  |_=>none
 |_=>none
end aM
namespace aM
open Go
inductive bD where
 |none|act (v:I)|done (v:I)
inductive bn where
 |nrm|exit (id:Nat)|ret|goto (l:Nat)|b4 (v:I)
inductive jq where
 |ok (e:bn) (r:aY) (d:List bQ) (q:bD) (h:J)
 |fail (iY:String)
inductive aI where
 |fn (f:Nat)|dd (l:Nat)
inductive Acc where
 |env (j:Nat)|reg (p:h8)|val (v:I)
def dt(m:Nat)(env:List I)(r:aY):Acc->I
 |.env j=>(nth (m-1-j) env).getD .bad
 |.reg p=>r.get p
 |.val v=>v
def hX(t:Nat):List (Nat×Acc)->Option Acc
 |[]=>none
 |(u,a)::l=>match Nat.beq t u with
  |true=>some a
  |false=>hX t l
def cE(P:Program)(need:Nat)(loc:List (Nat×Acc)):Operand->Acc
 |.tmp t=>match hX t loc with
  |some a=>a
  |none=>match Nat.testBit need t with
   |true=>.reg (gU t)
   |false=>.val .bad
 |.const v=>.val (nO v)
 |.global g=>match Nat.blt g P.globals.size with
  |true=>.val (.ptr g 0)
  |false=>.val .bad
 |.func f=>.val (.fn f [] [])
def sr(f:I)(args:List I)(h:J):iX:=
 match f with
 |.fn g first aR=>.call g (first++args++aR) h
 |.dd l=>.dd l args h
 |_=>.fail "callVal"
def fC(h:J)(iY:String):Option I->iX
 |some v=>.val v h
 |none=>.fail iY
def k8(iY:String):Option (I×J)->iX
 |some (v,h)=>.val v h
 |none=>.fail iY
def pN(iY:String):Option J->iX
 |some h=>.val (.aP []) h
 |none=>.fail iY
def kindName:I->String
 |.bad=> "bad" |.bool _=> "bool" |.int _ n=> "int" ++toString n|.str s=> "str" ++toString s.length|.bb=> "nilP" |.ptr b o=> "ptr" ++toString b++ "+" ++toString o|.a0=> "nilS" |.slice b o n c=> "slice" ++toString b++ "+" ++toString o++ "," ++toString n++(match c with|.exact k=> "x" ++toString k|.a1 _=> "o" |.dead=> "d")
 |.hW=> "nilM" |.map _=> "map" |.fL=> "nilF" |.fn f _ _=> "fn" ++toString f|.dd _=> "yld" |.eS=> "nilI" |.iface t _=> "iface" ++toString t|.agg l=> "agg" ++toString l.length|.aP l=> "tup" ++toString l.length
def zA(P:Program)(t:TypeId)(name:String):Option Nat:=
 match P.info? t with
 |some i=>match i.methods.find? (·.name==name) with
  |some m=>match m.path.isEmpty,m.func,P.underlying t with
   |true,some (f,true),some (.pointer _)=>some f
   |true,some (f,false),some (.pointer _)=>none
   |true,some (f,false),some _=>some f
   |_,_,_=>none
  |none=>none
 |none=>none
def hY(P:Program)(b:Builtin)(ats:Array TypeId)(vs:List I)(h:J):iX:=
 match b with
 |.recover=>.sm
 |.min=>match vs with
  |x::l=>fC h "min" (k7 pL x l)
  |[]=>.fail "min"
 |.max=>match vs with
  |x::l=>fC h "max" (k7 qO x l)
  |[]=>.fail "max"
 |b=>match ats[0]?,vs with
  |some t,[x]=>match b with
   |.len=>fC h ("len " ++kindName x) (b9 P h t x)
   |.cap=>fC h "cap" (uk P t x)
   |.clear=>k8 "clear" (oH P h t x)
   |.unsafeSliceData=>match x with
    |.a0=>.val .bb h
    |.slice b off n (.exact c)=>if c=0 then .fail "SliceData" else .val (.ptr b off) h
    |.slice b off n (.a1 _)=>if n=0 then .fail "SliceData" else .val (.ptr b off) h
    |_=>.fail "SliceData"
   |_=>.fail "builtin"
  |some t,[x,y]=>match b with
   |.append=>k8 ("append " ++kindName x++ " " ++kindName y) (dy P h t ats[1]? x y)
   |.copy=>k8 "copy" (um P h t x y)
   |.delete=>k8 "delete" (oO P h t x y)
   |.unsafeString=>k8 "usString" (oI P h t x y)
   |_=>.fail "builtin"
  |_,_=>.fail "builtin"
def iJ(P:Program)(src dst:TypeId)(x:I)(h:J):iX:=
 match P.underlying src,P.underlying dst,x with
 |some (.int _),some (.int k),.int _ n=>.val (.int k (k.wrap n)) h
 |some (.int _),some .string,.int _ n=>.val (.str (Utf8.encode n).data.toList) h
 |some .string,some .string,.str s=>.val (.str s) h
 |some .string,some (.slice e),.str s=>match P.underlying e with
  |some (.int .u8)=>.val (.slice h.n 0 s.length (.a1 1)) (h.push (.cells (c8 s) e .a1 0 0))
  |_=>.fail "convert to runes"
 |some (.slice e),some .string,v=>match P.underlying e,v with
  |some (.int .u8),.a0=>.val (.str []) h
  |some (.int .u8),.slice b off n .dead=>if n=0 then .val (.str []) h else .fail "convert dead"
  |some (.int .u8),.slice b off n _=>match loadCells h b off n with
   |some cs=>match m0 cs with
    |some bs=>.val (.str bs) h
    |none=>.fail "convert bytes"
   |none=>.fail "convert bytes"
  |_,_=>.fail "convert slice to string"
 |some (.pointer u),some .unsafePointer,.ptr b off=>match h.get b,dh P u with
  |some (.cells cs _ _ _ _),some (_+1)=>if Nat.blt off cs.length then .val (.ptr b off) h else .fail "convert pointer"
  |_,_=>.fail "convert pointer"
 |some .unsafePointer,some (.pointer u),.ptr b off=>match h.get b,dh P u with
  |some (.cells cs el .own _ _),some (_+1)=>if liesAt P P.depth el (cs.length/P.cellsOf el) off u 1 then .val (.ptr b off) h else .fail "convert from pointer"
  |_,_=>.fail "convert from pointer"
 |_,_,v=>.fail ("convert " ++kindName v)
def cB(P:Program)(o:Oper)(g:Operand->I)(h:J):iX:=
 match o.op with
 |.move x|.assign x=>.val (g x) h
 |.pick c a b=>match g c with
  |.bool true=>.val (g a) h
  |.bool false=>.val (g b) h
  |_=>.fail "pick"
 |.alloc e=>match d_ P e with
  |some z=>match newRow h e z.cells with
   |some (b,an)=>.val (.ptr b 0) an
   |none=>.fail "alloc"
  |none=>.fail "alloc"
 |.box e x=>match newRow h e (g x).cells with
  |some (b,an)=>.val (.ptr b 0) an
  |none=>.fail "box"
 |.build t parts=>match d_ P t with
  |some z=>match P.underlying t with
   |some (.struct bR)=>match bR.toList.all (λf=>(dh P f.type).isSome),jE (λi=>(bR[i]?).map λf=>(f.offset,P.cellsOf f.type)) z.cells (parts.toList.map λp=>(p.1,g p.2)) with
    |true,some cs=>.val (.agg cs) h
    |_,_=>.fail "build"
   |some (.array _ e)=>match dh P e with
    |some sz=>match jE (λi=>some (i*sz,sz)) z.cells (parts.toList.map λp=>(p.1,g p.2)) with
     |some cs=>.val (.agg cs) h
     |none=>.fail "build array"
    |none=>.fail "build"
   |_=>.fail "build"
  |none=>.fail "build"
 |.buildSlice t len parts=>match P.underlying t with
  |some (.slice e)=>match dh P e,d_ P e with
   |some sz,some z=>match Nat.ble (len*sz) 16777216&&Nat.beq z.cells.length sz,jE (λi=>some (i*sz,sz)) (if len*sz=0 then[] else fc len z.cells) (parts.toList.map λp=>(p.1,g p.2)) with
    |true,some cs=>match newRow h e cs with
     |some (b,an)=>.val (.slice b 0 len (.exact len)) an
     |none=>.fail "buildSlice"
    |_,_=>.fail "buildSlice"
   |_,_=>.fail "buildSlice"
  |_=>.fail "buildSlice"
 |.insert t m k v=>pN "insert" (uo P h t (g m) (g k) (g v))
 |.load t a=>match g a with
  |.ptr b off=>match pK P t,dh P t with
   |some true,some n=>match loadCells h b off n with
    |some cs=>.val (.agg cs) h
    |none=>.fail ("load agg " ++toString b++ "+" ++toString off)
   |some false,_=>fC h ("load " ++toString b++ "+" ++toString off) (au h b off)
   |_,_=>.fail "load"
  |v=>.fail ("load of " ++kindName v)
 |.store t a v=>match g a with
  |.ptr b off=>match g v,dh P t with
   |.bad,_=>.fail "store bad"
   |v,some n=>match Nat.beq v.cells.length n with
    |true=>pN "store" (storeCells h b off v.cells)
    |false=>.fail "store size"
   |_,none=>.fail "store"
  |_=>.fail "store"
 |.ready _|.waits _=>.fail "ready"
 |.nilCheck x=>match g x with
  |.ptr b o=>.val (.ptr b o) h
  |.slice b o n c=>.val (.slice b o n c) h
  |.fn f a b=>.val (.fn f a b) h
  |.iface t v=>.val (.iface t v) h
  |_=>.fail "nilCheck"
 |.binOp op t x y _=>fC h ("binOp " ++kindName (g x)++ " " ++kindName (g y)) (eB P h op t x y (g x) (g y))
 |.unOp op _ x=>match op,g x with
  |.not,.bool b=>.val (.bool (!b)) h
  |.neg,.int k n=>.val (.int k (k.wrap (0-n))) h
  |.xor,.int k n=>fC h "unOp" (arith .xor k (if k.signed then-1 else k.max) n)
  |_,_=>.fail "unOp"
 |.convert src dst x=>iJ P src dst (g x) h
 |.sliceToArrayPointer .. =>.fail "sliceToArrayPointer"
 |.makeInterface t x=>match P.underlying t with
  |some (.interface _)=>.fail "makeInterface"
  |some _=>.val (.iface t (g x)) h
  |none=>.fail "makeInterface"
 |.makeFunc fn first aR=>match fn with
  |.func f=>.val (.fn f (first.toList.map g) (aR.toList.map g)) h
  |_=>.fail "makeFunc"
 |.makeMap t r=>match r with
  |none=>.val (.map h.n) (h.push (.map [] 0))
  |some x=>match P.underlying t,g x with
   |some (.map _ _),.int _ _=>.val (.map h.n) (h.push (.map [] 0))
   |_,_=>.fail "makeMap"
 |.makeChan .. =>.fail "makeChan"
 |.makeSlice t l c=>match P.underlying t,eC (g l),eC (g c) with
  |some (.slice e),some l,some c=>match P.info? e,d_ P e with
   |some i,some z=>if l<=c&&Nat.ble (c*(i.bytes+1)) 1099511627776&&Nat.beq z.cells.length i.size then(match newRow h e (if c*i.size=0 then[] else fc c z.cells) with
    |some (b,an)=>.val (.slice b 0 l (.exact c)) an
    |none=>.fail "makeSlice") else .fail "makeSlice bounds"
   |_,_=>.fail "makeSlice"
  |_,_,_=>.fail "makeSlice"
 |.slice t x aN af mx=>fC h ("slice " ++kindName (g x)++((aN.map λo=>kindName (g o)).getD "-")++((af.map λo=>kindName (g o)).getD "-")) (de P h t (g x) (aN.map g) (af.map g) (mx.map g))
 |.fieldAddr s x f=>match P.underlying s,g x with
  |some (.struct bR),.ptr b off=>match bR[f]? with
   |some fd=>match dh P fd.type with
    |some 0=>.fail "fieldAddr 0"
    |some _=>.val (.ptr b (off+fd.offset)) h
    |none=>.fail "fieldAddr"
   |none=>.fail "fieldAddr"
  |_,v=>.fail ("fieldAddr " ++kindName v)
 |.field t x f=>match P.underlying t,g x with
  |some (.struct bR),.agg cs=>match bR[f]? with
   |some fd=>fC h "field" (iI P fd.type cs fd.offset)
   |none=>.fail "field"
  |_,_=>.fail "field"
 |.indexAddr t x i=>match P.underlying t,g x,eC (g i) with
  |some (.array n e),.ptr b off,some i=>match dh P e with
   |some sz=>if i<n then .val (.ptr b (off+i*sz)) h else .fail "indexAddr range"
   |none=>.fail "indexAddr"
  |some (.slice e),.slice b off n c,some i=>match dh P e with
   |some sz=>if i<n then .val (.ptr b (off+i*sz)) h else .fail "indexAddr range"
   |none=>.fail "indexAddr"
  |_,v,w=>.fail ("indexAddr " ++kindName v++kindName (g i))
 |.index t x i=>match P.underlying t,g x,eC (g i) with
  |some (.array n e),.agg cs,some i=>match dh P e with
   |some sz=>if i<n then fC h "index" (iI P e cs (i*sz)) else .fail "index range"
   |none=>.fail "index"
  |some .string,.str s,some i=>match nth i s with
   |some b=>.val (.int .u8 (Int.ofNat b.toNat)) h
   |none=>.fail "index str range"
  |_,_,_=>.fail "index"
 |.lookup t x i ok=>fC h "lookup" (h9 P h t (g x) (g i) ok)
 |.mapUpdate t m k v=>pN "mapUpdate" (uo P h t (g m) (g k) (g v))
 |.mapEntry t m k=>k8 "mapEntry" (oM P h t (g m) (g k))
 |.entryStore t m s v=>pN "entryStore" (oN h (g m) (g s) (g v))
 |.range t x=>match P.underlying t,g x with
  |some .string,.str s=>.val (.ptr h.n 0) (h.push (.qL s 0))
  |some (.map _ _),.hW=>.val (.ptr h.n 0) (h.push (.mapIter none 0 [] 0))
  |some (.map _ _),.map m=>match h.get m with
   |some (.map _ c)=>.val (.ptr h.n 0) (h.push (.mapIter (some m) c [] c))
   |_=>.fail "range"
  |_,_=>.fail "range"
 |.next it isStr=>k8 "next" (zz h (g it) isStr)
 |.entry it=>fC h "entry" (sq h (g it))
 |.typeAssert x xT as ok=>match P.underlying as,g x with
  |some (.interface _),_=>.fail "typeAssert to an interface"
  |some _,.eS=>if ok then(match d_ P as with|some z=>.val (.aP [z,.bool false]) h|none=>.fail "typeAssert") else .fail "typeAssert nil"
  |some _,.iface t v=>if t=as then .val (if ok then .aP [v,.bool true] else v) h else
   if ok then(match d_ P as with|some z=>.val (.aP [z,.bool false]) h|none=>.fail "typeAssert") else .fail "typeAssert fails"
  |_,_=>.fail "typeAssert"
 |.extract t i=>match g t with
  |.aP vs=>fC h "extract" (nth i vs)
  |_=>.fail "extract"
 |.call c=>match c.callee with
  |.value f=>sr (g f) (c.args.toList.map g) h
  |.invoke r name=>match g r with
   |.iface t v=>match zA P t name with
    |some f=>.call f (v::c.args.toList.map g) h
    |none=>.fail ("invoke " ++name)
   |_=>.fail ("invoke " ++name)
  |.builtin b=>hY P b c.argTypes (c.args.toList.map g) h
 |.go _=>.fail "go"
 |.defer c=>match c.callee with
  |.value f=>match g f with
   |.fn k first aR=>.k6 (.call k (first++c.args.toList.map g++aR))
   |_=>.fail "defer"
  |_=>.fail "defer"
 |.panic x=>match g x with
  |.iface t v=>.b4 (.iface t v) h
  |_=>.fail "panic"
 |.send .. |.recv .. |.select .. =>.fail "comm"
structure Step where
 guard:Option (Acc×Bool)
 o:Oper
 loc:List (Nat×Acc)
 m:Nat
structure GY where
 steps:List Step
 loc:List (Nat×Acc)
def jr(P:Program)(need:Nat)(ops:Array Oper)(loc:List (Nat×Acc))(o:Oper):Option (Acc×Bool):=
 match o.guard with
 |none=>none
 |some (j,b)=>match(ops[j]?).bind (·.dst) with
  |some t=>some (cE P need loc (.tmp t),b)
  |none=>some (.val .bad,b)
def aliasOf(o:Oper):Option (Nat×Operand):=
 match o.guard,o.dst,o.op with
 |none,some t,.move x=>some (t,x)
 |none,some t,.assign x=>some (t,x)
 |_,_,_=>none
def g9(o:Oper)(m:Nat)(loc:List (Nat×Acc)):List (Nat×Acc):=
 match o.dst with
 |some t=>(t,.env m)::loc
 |none=>loc
def uq(P:Program)(need:Nat)(ops:Array Oper):List Oper->List (Nat×Acc)->List Step->Nat->GY
 |[],loc,st,_=>⟨st.reverse,loc⟩
 |o::rest,loc,st,m=>
  match aliasOf o with
  |some (t,x)=>uq P need ops rest ((t,cE P need loc x)::loc) st m
  |none=>uq P need ops rest (g9 o m loc) (⟨jr P need ops loc o,o,loc,m⟩::st) (m+1)
def oP(P:Program)(need:Nat)(ops:Array Oper):GY:=uq P need ops ops.toList [] [] 0
inductive mc where
 |ok (env:List I) (d:List bQ) (q:bD) (h:J)
 |b4 (v:I) (d:List bQ) (q:bD) (h:J)
 |fail (iY:String)
inductive wM where
 |ok (v:I) (d:List bQ) (q:bD) (h:J)
 |b4 (v:I) (d:List bQ) (q:bD) (h:J)
 |fail (iY:String)
def ep:Option (I×Bool)->Option Bool
 |none=>some true
 |some (.bool c,b)=>some (c==b)
 |some (.aP [],_)=>some false
 |_=>none
def wN(d:List bQ)(q:bD):av->wM
 |.ret v h=>.ok v d q h
 |.b4 v h=>.b4 v d q h
 |.fail w=>.fail w
def dL(P:Program)(inR:Bool)(call:aI->List I->J->av)(gd:Option (I×Bool))(o:Oper)(g:Operand->I)(d:List bQ)(q:bD)(h:J):wM:=
 match ep gd with
 |none=>.fail ("guard " ++o.pos)
 |some false=>.ok (.aP []) d q h
 |some true=>
  match cB P o g h with
  |.val v an=>.ok v d q an
  |.b4 v an=>.b4 v d q an
  |.call f args an=>wN d q (call (.fn f) args an)
  |.dd l args an=>wN d q (call (.dd l) args an)
  |.k6 x=>if inR then .fail "defer in a round" else .ok (.aP []) (x::d) q h
  |.sm=>if inR then .fail "recover in a round" else match q with
   |.none=>.ok .eS d .none h
   |.done v=>.ok .eS d (.done v) h
   |.act v=>.ok v d (.done v) h
  |.fail w=>.fail (w++ " at " ++o.pos)
def h_(P:Program)(need:Nat)(inR:Bool)(call:aI->List I->J->av)(r:aY):List Step->List I->List bQ->bD->J->mc
 |[],env,d,q,h=>.ok env d q h
 |s::rest,env,d,q,h=>
  match dL P inR call (match s.guard with|none=>none|some (a,b)=>some (dt s.m env r a,b)) s.o (λx=>dt s.m env r (cE P need s.loc x)) d q h with
  |.ok v bf bj an=>h_ P need inR call r rest (v::env) bf bj an
  |.b4 v bf bj an=>.b4 v bf bj an
  |.fail w=>.fail w
def b3.beq:b3->b3->Bool
 |.exact a,.exact b=>Nat.beq a b
 |.a1 a,.a1 b=>Nat.beq a b
 |.dead,.dead=>true
 |_,_=>false
mutual
def I.beq:I->I->Bool
 |.bool a,.bool b=>a==b
 |.int j a,.int k b=>decide (j=k)&&a8 a b
 |.str a,.str b=>dF a b
 |.bb,.bb=>true
 |.ptr a i,.ptr b j=>Nat.beq a b&&Nat.beq i j
 |.a0,.a0=>true
 |.slice a i n c,.slice b j m d=>Nat.beq a b&&Nat.beq i j&&Nat.beq n m&&c.beq d
 |.hW,.hW=>true
 |.map a,.map b=>Nat.beq a b
 |.fL,.fL=>true
 |.fn f a b,.fn g c d=>Nat.beq f g&&I.m1 a c&&I.m1 b d
 |.dd a,.dd b=>Nat.beq a b
 |.eS,.eS=>true
 |.iface t v,.iface u w=>Nat.beq t u&&I.beq v w
 |.agg a,.agg b=>I.m1 a b
 |.aP a,.aP b=>I.m1 a b
 |_,_=>false
def I.m1:List I->List I->Bool
 |[],[]=>true
 |a::as,b::bs=>I.beq a b&&I.m1 as bs
 |_,_=>false
end
inductive Oy where
 |pure|alloc|eb
def kindOf(P:Program):Op->Oy
 |.move _|.assign _|.pick .. |.build .. |.load .. |.nilCheck _|.binOp .. |.unOp .. |.makeInterface .. |.makeFunc .. |.slice .. |.fieldAddr .. |.field .. |.indexAddr .. |.index .. |.lookup .. |.typeAssert .. |.extract .. =>.pure
 |.convert _ d _=>match P.underlying d with
  |some (.slice _)=>.eb
  |_=>.pure
 |.call c=>match c.callee with
  |.builtin .len|.builtin .cap|.builtin .min|.builtin .max|.builtin .unsafeSliceData=>.pure
  |_=>.eb
 |.alloc _|.box .. |.buildSlice .. |.makeSlice .. =>.alloc
 |.makeMap _ none=>.alloc
 |_=>.eb
def jX(P:Program)(o:Op)(g:Operand->I)(b:Nat):Option (I×da):=
 match o with
 |.alloc e=>match d_ P e with
  |some z=>match z.cells.all I.cQ with
   |true=>some (.ptr b 0,.cells z.cells e .own 0 0)
   |false=>none
  |none=>none
 |.box e x=>match(g x).cells.all I.cQ with
  |true=>some (.ptr b 0,.cells (g x).cells e .own 0 0)
  |false=>none
 |.buildSlice t len parts=>match P.underlying t with
  |some (.slice e)=>match dh P e,d_ P e with
   |some sz,some z=>match Nat.ble (len*sz) 16777216&&Nat.beq z.cells.length sz,jE (λi=>some (i*sz,sz)) (if len*sz=0 then[] else fc len z.cells) (parts.toList.map λp=>(p.1,g p.2)) with
    |true,some cs=>match cs.all I.cQ with
     |true=>some (.slice b 0 len (.exact len),.cells cs e .own 0 0)
     |false=>none
    |_,_=>none
   |_,_=>none
  |_=>none
 |.makeSlice t l c=>match P.underlying t,eC (g l),eC (g c) with
  |some (.slice e),some l,some c=>match P.info? e,d_ P e with
   |some i,some z=>match decide (l<=c)&&Nat.ble (c*(i.bytes+1)) 1099511627776&&Nat.beq z.cells.length i.size,(if c*i.size=0 then[] else fc c z.cells) with
    |true,cs=>match cs.all I.cQ with
     |true=>some (.slice b 0 l (.exact c),.cells cs e .own 0 0)
     |false=>none
    |_,_=>none
   |_,_=>none
  |_,_,_=>none
 |.makeMap _ none=>some (.map b,.map [] 0)
 |_=>none
structure DStep where
 i:Nat
 o:Oper
 eT:Nat
 loc:List (Nat×Acc)
def wO(gB:List Nat)(n:Nat)(o:Oper):Nat:=
 o.after.foldl (λs e=>match Region.binds .any e with
  |true=>s|||1<<<e.on|||(nth (n-1-e.on) gB).getD 0
  |false=>s) 0
def e1:List Oper->Nat->List (Nat×Acc)->List Nat->List DStep
 |[],_,_,_=>[]
 |o::l,n,loc,gB=>
  let m:=wO gB n o
  ⟨n,o,m,loc⟩::e1 l (n+1) (g9 o n loc) (m::gB)
def iK:List Oper->Nat->List (Nat×Acc)->List (Nat×Acc)
 |[],_,loc=>loc
 |o::l,n,loc=>iK l (n+1) (g9 o n loc)
def gL(P:Program)(need:Nat)(ops:Array Oper)(r:aY)(n:Nat)(env:List I)(s:DStep):Option (I×Bool):=
 match jr P need ops s.loc s.o with
 |none=>none
 |some (a,b)=>some (dt n env r a,b)
inductive Cq where
 |ok (env:List I) (d:List bQ) (q:bD) (h:J) (bc:List (Nat×Nat×J))
 |b4 (v:I) (env:List I) (d:List bQ) (q:bD) (h:J) (bc:List (Nat×Nat×J))
 |fail (iY:String)
def gj(P:Program)(need:Nat)(inR:Bool)(call:aI->List I->J->av)(ops:Array Oper)(r:aY)(cA:Nat):List DStep->List I->List bQ->bD->J->List (Nat×Nat×J)->Cq
 |[],env,d,q,h,bc=>.ok env d q h bc
 |s::rest,env,d,q,h,bc=>
  let gd:=gL P need ops r s.i env s
  let g:=λx=>dt s.i env r (cE P need s.loc x)
  match kindOf P s.o.op with
  |.alloc=>match ep gd with
   |none=>.fail ("guard " ++s.o.pos)
   |some false=>gj P need inR call ops r cA rest (.aP []::env) d q h bc
   |some true=>match jX P s.o.op g (cA+s.i) with
    |some (v,o)=>gj P need inR call ops r cA rest (v::env) d q (h.set (cA+s.i) (some o)) bc
    |none=>.fail ("alloc " ++s.o.pos)
  |.pure=>match dL P inR call gd s.o g d q h with
   |.ok v _ _ _=>gj P need inR call ops r cA rest (v::env) d q h bc
   |.b4 _ _ _ _=>.fail ("pure " ++s.o.pos)
   |.fail w=>.fail w
  |.eb=>
   match(match bc with|[]=>true|(e,_,_)::_=>Nat.testBit s.eT e) with
   |false=>.fail ("order " ++s.o.pos)
   |true=>match dL P inR call gd s.o g d q h with
    |.ok v bf bj an=>gj P need inR call ops r cA rest (v::env) bf bj an ((s.i,s.eT,h)::bc)
    |.b4 v bf bj an=>match rest.all (λbg=>Nat.testBit bg.eT s.i) with
     |true=>.b4 v env bf bj an ((s.i,s.eT,h)::bc)
     |false=>.fail ("panic " ++s.o.pos)
    |.fail w=>.fail w
def lC(P:Program)(need:Nat)(ops:Array Oper)(r:aY)(n:Nat)(env:List I)(s:DStep)(v:I)(h:J):Bool:=
 match ep (gL P need ops r n env s) with
 |none=>false
 |some false=>true
 |some true=>match cB P s.o (λx=>dt n env r (cE P need s.loc x)) h with
  |.val v' _=>I.beq v' v
  |_=>false
def kJ(P:Program)(need:Nat)(ops:Array Oper)(r:aY)(n:Nat)(env:List I)(s:DStep)(v:I):Option Nat->J->List (Nat×Nat×J)->Bool
 |dQ,h,bc=>
  (match(match dQ with|none=>false|some e=>Nat.testBit s.eT e)||(match bc with|[]=>false|(_,m,_)::_=>Nat.testBit m s.i) with
   |true=>true
   |false=>lC P need ops r n env s v h)&&
  (match bc with
   |[]=>true
   |(e,_,an)::rest=>kJ P need ops r n env s v (some e) an rest)
def k9(P:Program)(need:Nat)(ops:Array Oper)(r:aY)(n:Nat)(env:List I)(last:Option Nat)(h:J)(bc:List (Nat×Nat×J)):List DStep->Bool
 |[]=>true
 |s::rest=>(match Nat.blt s.i n,kindOf P s.o.op with
   |true,.pure=>kJ P need ops r n env s ((nth (n-1-s.i) env).getD .bad) last h bc
   |_,_=>true)&&k9 P need ops r n env last h bc rest
def ss(P:Program)(need:Nat)(inR:Bool)(call:aI->List I->J->av)(ops:Array Oper)(r:aY)(d:List bQ)(q:bD)(h:J):mc:=
 let steps:=e1 ops.toList 0 [] []
 match gj P need inR call ops r h.n steps [] d q ⟨h.t,h.n+ops.size⟩ [] with
 |.ok env bf bj an bc=>match k9 P need ops r env.length env none an bc steps with
  |true=>.ok env bf bj an
  |false=>.fail "orders"
 |.b4 v env bf bj an bc=>match bc with
  |(e,_,h0)::rest=>match k9 P need ops r env.length env (some e) h0 rest steps with
   |true=>.b4 v bf bj an
   |false=>.fail "orders"
  |[]=>.fail "orders"
 |.fail w=>.fail w
def oQ(need:Nat)(m:Nat)(env:List I)(fv:aY):List (Nat×Acc)->aY->aY
 |[],r=>r
 |(t,a)::l,r=>
  let r':=oQ need m env fv l r
  match Nat.testBit need t with
  |true=>r'.set (gU t) (dt m env fv a)
  |false=>r'
def ur:List (Nat×Acc)->aY->aY
 |[],r=>r
 |(t,_)::l,r=>(ur l r).set (gU t) .bad
def md(need:Nat)(r:aY)(loc:List (Nat×Acc)):mc->jq
 |.ok env d q h=>.ok .nrm (oQ need env.length env r loc r) d q h
 |.b4 v d q h=>.ok (.b4 v) (ur loc r) d q h
 |.fail w=>.fail w
def pO(x:jq)(f:aY->List bQ->bD->J->jq):jq:=
 match x with
 |.ok .nrm r d q h=>f r d q h
 |x=>x
def oR(f:aY->List bQ->bD->J->jq):Nat->aY->List bQ->bD->J->jq
 |0,_,_,_,_=>.fail "loop fuel"
 |n+1,r,d,q,h=>pO (f r d q h) (oR f n)
def nQ(rd:Option Nat)(n:Nat):Nat:=match rd with
 |none=>n+1
 |some _=>n
def wP(need:Nat)(rd:Option Nat)(r:aY)(ps:List Nat)(as cf:Code)(d:List bQ)(h:J):Option (List bQ×J):=
 match rd with
 |none=>some (.collected h.n::d,(h.push (.defrd (some []))).push (.loop .ready none need r ps as cf h.n))
 |some Cr=>match h.get Cr with
  |some (.loop _ _ _ _ _ _ _ eD)=>some (d,h.push (.loop .ready none need r ps as cf eD))
  |_=>none
def m2(l:Nat)(r:aY)(d:List bQ)(q:bD):av->jq
 |.ret _ h=>match h.get l with
  |some (.loop st fM gV rg ps as cf eD)=>match st with
   |.busy=>.fail "rangeFunc: busy"
   |_=>match fM with
    |none=>.ok .nrm r d q (h.set l (some (.loop .exhausted fM gV rg ps as cf eD)))
    |some .ret=>.ok .ret r d q (h.set l (some (.loop .exhausted fM gV rg ps as cf eD)))
    |some (.exit id)=>.ok (.exit id) r d q (h.set l (some (.loop .exhausted fM gV rg ps as cf eD)))
    |_=>.fail "rangeFunc: goto"
  |_=>.fail "rangeFunc: loop gone"
 |.b4 v h=>.ok (.b4 v) r d q h
 |.fail w=>.fail w
def du(P:Program)(need:Nat)(rd:Option Nat)(call:aI->List I->J->av):Code->aY->List bQ->bD->J->jq
 |.skip,r,d,q,h=>.ok .nrm r d q h
 |.region id ops draw,r,d,q,h=>
  match draw with
  |false=>
   let pl:=oP P need ops
   md need r pl.loc (h_ P need rd.isSome call r pl.steps [] d q h)
  |true=>md need r (iK ops.toList 0 []) (ss P need rd.isSome call ops r d q h)
 |.seq a b,r,d,q,h=>pO (du P need rd call a r d q h) (du P need rd call b)
 |.cond c a b,r,d,q,h=>match dt 0 [] r (cE P need [] c) with
  |.bool true=>du P need rd call a r d q h
  |.bool false=>du P need rd call b r d q h
  |_=>.fail "cond"
 |.block id b,r,d,q,h=>match du P need rd call b r d q h with
  |.ok (.exit i) r' bf bj an=>if i=id then .ok .nrm r' bf bj an else .ok (.exit i) r' bf bj an
  |x=>x
 |.loop b,r,d,q,h=>oR (du P need rd call b) 100000 r d q h
 |.exit id,r,d,q,h=>.ok (.exit id) r d q h
 |.ret,r,d,q,h=>.ok .ret r d q h
 |.label _,r,d,q,h=>.ok .nrm r d q h
 |.goto l,r,d,q,h=>.fail "goto"
 |.scope b,r,d,q,h=>du P need rd call b r d q h
 |.rangeFunc f params assign body,r,d,q,h=>
  match wP need rd r params.toList assign body d h with
  |none=>.fail "rangeFunc"
  |some (bf,ab)=>
   match sr (dt 0 [] r (cE P need [] f)) [.dd (nQ rd h.n)] ab with
   |.call g args ad=>m2 (nQ rd h.n) r bf q (call (.fn g) args ad)
   |.dd b2 args ad=>m2 (nQ rd h.n) r bf q (call (.dd b2) args ad)
   |_=>.fail "rangeFunc: no function"
 |.refuse w,_,_,_,_=>.fail ("refuse " ++w)
def bit(t:Nat):Nat:=1<<<t
def GZ:List Oper->Nat->Nat->Nat
 |[],_,acc=>acc
 |o::l,written,acc=>
  let acc:=o.op.operands.foldl (λa x=>match x with
   |.tmp t=>if Nat.testBit written t then a else a|||bit t
   |_=>a) acc
  GZ l (match o.dst with|some t=>written|||bit t|none=>written) acc
def G0:Operand->Nat
 |.tmp t=>bit t
 |_=>0
def qQ:Code->Nat->Nat
 |.region _ ops _,acc=>GZ ops.toList 0 acc
 |.seq a b,acc=>qQ b (qQ a acc)
 |.cond c a b,acc=>qQ b (qQ a (acc|||G0 c))
 |.block _ b,acc|.loop b,acc|.scope b,acc=>qQ b acc
 |.rangeFunc f ps a b,acc=>qQ b (qQ a (acc|||G0 f|||ps.foldl (λa t=>a|||bit t) 0))
 |_,acc=>acc
def dG(fn:Func):Nat:=
 let rs:=fn.results.foldl (λa r=>match r with|.tmp t=>a|||bit t|.cell t _=>a|||bit t) 0
 match fn.body with
 |some c=>qQ c rs
 |none=>rs
def m3:Nat->List I->aY->aY
 |_,[],r=>r
 |i,v::l,r=>m3 (i+1) l (r.set (gU i) v)
def qR(P:Program)(need:Nat)(r:aY)(h:J)(x:ResultVar):Option I:=
 match x with
 |.tmp t=>match Nat.testBit need t with
  |true=>some (r.get (gU t))
  |false=>none
 |.cell t ty=>match Nat.testBit need t with
  |true=>match r.get (gU t),pK P ty,dh P ty with
   |.ptr b off,some true,some n=>(match loadCells h b off n with|some cs=>some (.agg cs)|none=>none)
   |.ptr b off,some false,_=>au h b off
   |_,_,_=>none
  |false=>none
def oS(f:ResultVar->Option I):List ResultVar->Option (List I)
 |[]=>some []
 |x::l=>match f x,oS f l with
  |some v,some vs=>some (v::vs)
  |_,_=>none
def pP(P:Program)(need:Nat)(fn:Func)(r:aY)(h:J):Option I:=
 match oS (qR P need r h) fn.results.toList with
 |some [v]=>some v
 |some vs=>some (.aP vs)
 |none=>none
def nR(c:Nat):List UInt8->Nat->Int
 |[],_=>-1
 |b::l,i=>match Nat.beq b.toNat c with
  |true=>Int.ofNat i
  |false=>nR c l (i+1)
def qS(P:Program)(fn:Func)(name:String)(args:List I)(h:J):Option (I×J):=
 match args with
 |[.int .i64 (.ofNat n)]=>if name= "internal/bytealg.MakeNoZero" then
    (match fn.resultTypes[0]? with
    |some t=>match P.underlying t with
     |some (.slice e)=>match Nat.ble n 1099511627776 with
      |true=>some (.slice h.n 0 n (.a1 1),h.push (.cells (List.replicate n .bad) e .a1 0 0))
      |false=>none
     |_=>none
    |none=>none) else none
 |[x]=>if name= "internal/abi.NoEscape" then some (x,h) else
  if name= "maps.clone" then(match x with
   |.iface t (.map r)=>match h.get r with
    |some (.map es c)=>some (.iface t (.map h.n),h.push (.map es c))
    |_=>none
   |_=>none) else none
 |[.str s,.int .u8 (.ofNat c)]=>if name= "internal/bytealg.IndexByteString" then
    (match Nat.blt c 256 with
    |true=>some (.int .i64 (nR c s 0),h)
    |false=>none) else none
 |_=>none
def uu:Option I->bD
 |some v=>.act v
 |none=>.none
def wQ(q:bD)(eE:Option I):Option I:=match q with
 |.done _=>none
 |_=>eE
def me(P:Program)(call:aI->List I->J->av)(fn:Func)(args:List I)(q:bD)(h:J):jq:=
 match fn.body with
 |some c=>match Nat.ble args.length fn.ntmps with
  |true=>du P (dG fn) none call c (m3 0 args .leaf) [] q h
  |false=>.fail "too many arguments"
 |none=>.fail "no body"
def G1(P:Program)(fn:Func)(eE:Option I):jq->Option (Option I×J)
 |.ok e r d q h=>match(match e with|.nrm=>true|.ret=>true|_=>false),d,pP P (dG fn) fn r h with
  |true,[],some _=>some (wQ q eE,h)
  |_,_,_=>none
 |.fail _=>none
def i_(P:Program)(call:aI->List I->J->av)(need:Nat)(fn:Func)(r:aY):Nat->Option I->List bQ->J->av
 |0,_,_,_=>.fail "defers"
 |k+1,eE,ds,h=>match ds with
  |[]=>match eE with
   |none=>match pP P need fn r h with
    |some v=>.ret v h
    |none=>.fail "results"
   |some v=>.b4 v h
  |.collected b::ds=>match h.get b with
   |some (.defrd (some cs))=>i_ P call need fn r k eE (cs++ds) (h.set b (some (.defrd none)))
   |_=>.fail "collected"
  |.call g args::ds=>
   match P.funcs[g]? with
   |some ho=>match G1 P ho eE (me P call ho args (uu eE) h) with
    |some (Oz,an)=>i_ P call need fn r k Oz ds an
    |none=>.fail "deferred call"
   |none=>.fail "deferred"
def oT(P:Program)(call:aI->List I->J->av)(fn:Func):jq->av
 |.ok .nrm r d _ h=>i_ P call (dG fn) fn r 100 none d h
 |.ok .ret r d _ h=>i_ P call (dG fn) fn r 100 none d h
 |.ok (.b4 v) r d _ h=>i_ P call (dG fn) fn r 100 (some v) d h
 |.ok _ _ _ _ _=>.fail "exit out of a function"
 |.fail w=>.fail (w++ " < " ++fn.name)
def pQ(P:Program)(call:aI->List I->J->av)(f:Nat)(args:List I)(h:J):av:=
 match P.funcs[f]? with
 |none=>.fail "no function"
 |some fn=>
  match fn.body with
  |none=>match qS P fn fn.name args h with
   |some (v,an)=>.ret v an
   |none=>.fail ("extern " ++fn.name)
  |some _=>oT P call fn (me P call fn args .none h)
def uv:List Nat->List I->aY->Option aY
 |[],[],r=>some r
 |t::cv,v::vs,r=>uv cv vs (r.set (gU t) v)
 |_,_,_=>none
def wR(l:Nat):jq->av
 |.ok e _ [] _ h=>match h.get l with
  |some (.loop .busy _ gV rg ps as cf eD)=>match e with
   |.nrm=>.ret (.bool true) (h.set l (some (.loop .ready none gV rg ps as cf eD)))
   |.ret=>.ret (.bool false) (h.set l (some (.loop .done (some .ret) gV rg ps as cf eD)))
   |.exit id=>.ret (.bool false) (h.set l (some (.loop .done (some (.exit id)) gV rg ps as cf eD)))
   |.b4 v=>.b4 v h
   |.goto _=>.fail "goto in a round"
  |_=>.fail "round"
 |.ok .. =>.fail "round defers"
 |.fail w=>.fail (w++ " < round")
def Cs(P:Program)(call:aI->List I->J->av)(l need:Nat)(cf:Code):jq->av
 |.ok .nrm r [] _ h=>match h.get l with
  |some (.loop .ready fM gV rg ps zB zC eD)=>wR l (du P need (some l) call cf r [] .none (h.set l (some (.loop .busy fM gV rg ps zB zC eD))))
  |_=>.fail "round"
 |.ok .. =>.fail "round assign"
 |.fail w=>.fail w
def su(P:Program)(call:aI->List I->J->av)(l:Nat)(args:List I)(h:J):av:=
 match h.get l with
 |some (.loop .ready _ need rg ps as cf _)=>
  match uv ps args rg with
  |none=>.fail "yield: arguments"
  |some fv=>Cs P call l need cf (du P need (some l) call as fv [] .none h)
 |_=>.fail "yield"
def e6(P:Program)(intr:Nat->List I->J->Option (I×J)):Nat->aI->List I->J->av
 |0,_,_,_=>.fail "depth"
 |n+1,.fn f,args,h=>match intr f args h with
  |some (v,an)=>.ret v an
  |none=>pQ P (e6 P intr n) f args h
 |n+1,.dd l,args,h=>su P (e6 P intr n) l args h
def qT(n:Nat):J:=⟨.leaf,n⟩
def lD(ops:Array Oper)(o:Oper):List Nat:=
 o.dst.toList++(o.op.operands.toList.filterMap λ|.tmp t=>some t|_=>none)++(match o.guard with|some (j,_)=>((ops[j]?).bind (·.dst)).toList|none=>[])
def nS(o:Oper)(i:Nat):Bool:=o.after.toList.all λe=>!Region.binds .any e||Nat.blt e.on i
def zD(ops:Array Oper)(s:DStep):List DStep->Bool
 |[]=>true
 |bg::l=>(match(match s.o.dst with|some t=>(lD ops bg.o).contains t|none=>false)||(match bg.o.dst with|some t=>(lD ops s.o).contains t|none=>false) with
   |true=>Nat.testBit bg.eT s.i
   |false=>true)&&zD ops s l
def pR(ops:Array Oper):List DStep->Bool
 |[]=>true
 |s::l=>nS s.o s.i&&zD ops s l&&pR ops l
def hp(bP:Nat):Code->Bool
 |.region _ ops draw=>ops.toList.all (λo=>match o.dst with|some t=>Nat.blt t bP|none=>true)&&(!draw||pR ops (e1 ops.toList 0 [] []))
 |.seq a b=>hp bP a&&hp bP b
 |.cond _ a b=>hp bP a&&hp bP b
 |.block _ b|.loop b|.scope b=>hp bP b
 |.rangeFunc _ ps a b=>ps.toList.all (λt=>Nat.blt t bP)&&hp bP a&&hp bP b
 |_=>true
end aM
namespace aM
open Go
def h8.num:h8->Nat
 |.here=>0
 |.l p=>2*p.num+1
 |.r p=>2*p.num+2
theorem G2:∀(f n:Nat),n<=f->(wG f n).num=n
 |0,n,h=>by
  obtain rfl:n=0:=by omega
  rfl
 |f+1,0,_=>rfl
 |f+1,m+1,h=>by
  have e:Nat.mod m 2=m %2:=rfl
  have ay:Nat.div m 2=m/2:=rfl
  have a6:=G2 f (m/2) (by omega)
  simp only[wG,e,ay]
  rcases Nat.mod_two_eq_zero_or_one m with h0|ab
  · simp only[h0,h8.num,a6];omega
  · simp only[ab,h8.num,a6];omega
theorem zE(n:Nat):(gU n).num=n:=G2 n n (Nat.le_refl n)
theorem OA{m n:Nat}(h:gU m=gU n):m=n:=by rw[<-zE m,<-zE n,h]
theorem aY.qU(l:aY)(v:I)(r:aY):aY.Cm l v r=.node l v r:=by cases l<;>rfl
theorem aY.qV(l:aY)(v:I)(r:aY):aY.Cn l v r=.node l v r:=by cases r<;>rfl
theorem aY.m4(p:h8):aY.get p .leaf=.bad:=by cases p<;>rfl
theorem aY.wS:∀(p:h8) (v:I) (t:aY),(aY.set p v t).get p=v
 |.here,v,.leaf=>rfl
 |.here,v,.node .. =>rfl
 |.l p,v,.leaf=>by simp only[aY.set,aY.qU,aY.get];exact wS p v _
 |.l p,v,.node l _ _=>by simp only[aY.set,aY.qU,aY.get];exact wS p v _
 |.r p,v,.leaf=>by simp only[aY.set,aY.qV,aY.get];exact wS p v _
 |.r p,v,.node .. =>by simp only[aY.set,aY.qV,aY.get];exact wS p v _
theorem aY.wT:∀(p q:h8) (v:I) (t:aY),p≠q->(aY.set q v t).get p=t.get p
 |.here,.here,_,_,h=>absurd rfl h
 |.here,.l q,v,.leaf,_=>by simp[aY.set,aY.qU,aY.get]
 |.here,.l q,v,.node ..,_=>by simp[aY.set,aY.qU,aY.get]
 |.here,.r q,v,.leaf,_=>by simp[aY.set,aY.qV,aY.get]
 |.here,.r q,v,.node ..,_=>by simp[aY.set,aY.qV,aY.get]
 |.l p,.here,v,.leaf,_=>by simp[aY.set,aY.get,aY.m4]
 |.l p,.here,v,.node ..,_=>by simp[aY.set,aY.get]
 |.r p,.here,v,.leaf,_=>by simp[aY.set,aY.get,aY.m4]
 |.r p,.here,v,.node ..,_=>by simp[aY.set,aY.get]
 |.l p,.l q,v,.leaf,h=>by
  simp only[aY.set,aY.qU,aY.get]
  rw[wT p q v _ (λe=>h (by rw[e])),aY.m4]
 |.l p,.l q,v,.node ..,h=>by
  simp only[aY.set,aY.qU,aY.get]
  exact wT p q v _ (λe=>h (by rw[e]))
 |.r p,.r q,v,.leaf,h=>by
  simp only[aY.set,aY.qV,aY.get]
  rw[wT p q v _ (λe=>h (by rw[e])),aY.m4]
 |.r p,.r q,v,.node ..,h=>by
  simp only[aY.set,aY.qV,aY.get]
  exact wT p q v _ (λe=>h (by rw[e]))
 |.l p,.r q,v,.leaf,_=>by simp[aY.set,aY.qV,aY.get,aY.m4]
 |.l p,.r q,v,.node ..,_=>by simp[aY.set,aY.qV,aY.get]
 |.r p,.l q,v,.leaf,_=>by simp[aY.set,aY.qU,aY.get,aY.m4]
 |.r p,.l q,v,.node ..,_=>by simp[aY.set,aY.qU,aY.get]
theorem aY.cR(t u:Nat)(v:I)(r:aY):(aY.set (gU u) v r).get (gU t)=if t=u then v else r.get (gU t):=by
 by_cases h:t=u
 · subst h;simp[aY.wS]
 · rw[if_neg h];exact aY.wT _ _ _ _ (λe=>h (OA e))
theorem e0.m4(n:Nat):e0.get .leaf n=none:=rfl
theorem e0.cR:∀(f:Nat) (t:e0) (n m:Nat) (x:Option da),n<f->(e0.k5 f t n x).get m=if m=n then x else t.get m
 |0,_,n,_,_,h=>by omega
 |f+1,.leaf,0,m,x,_=>by
  cases m with
  |zero=>simp[e0.k5,e0.get]
  |succ m=>
   simp only[e0.k5,e0.get]
   have e:Nat.mod m 2=m %2:=rfl
   rcases Nat.mod_two_eq_zero_or_one m with h|h<;>simp[e,h]
 |f+1,.node l v r,0,m,x,_=>by
  cases m with
  |zero=>simp[e0.k5,e0.get]
  |succ m=>simp[e0.k5,e0.get]
 |f+1,.leaf,n+1,m,x,aK=>by
  have e (k:Nat):Nat.mod k 2=k %2:=rfl
  have ay (k:Nat):Nat.div k 2=k/2:=rfl
  have a6:=λj=>cR f .leaf (n/2) j x (by omega)
  rcases Nat.mod_two_eq_zero_or_one n with h|h
  · simp only[e0.k5,e,h,ay]
    cases m with
    |zero=>simp[e0.get]
    |succ m=>
     simp only[e0.get,e,ay]
     rcases Nat.mod_two_eq_zero_or_one m with g|g
     · simp only[g,a6,e0.m4]
       have:(m/2=n/2)<->(m+1=n+1):=by omega
       simp only[this]
     · simp only[g,e0.m4]
       rw[if_neg (by omega)]
  · simp only[e0.k5,e,h,ay]
    cases m with
    |zero=>simp[e0.get]
    |succ m=>
     simp only[e0.get,e,ay]
     rcases Nat.mod_two_eq_zero_or_one m with g|g
     · simp only[g,e0.m4]
       rw[if_neg (by omega)]
     · simp only[g,a6,e0.m4]
       have:(m/2=n/2)<->(m+1=n+1):=by omega
       simp only[this]
 |f+1,.node l v r,n+1,m,x,aK=>by
  have e (k:Nat):Nat.mod k 2=k %2:=rfl
  have ay (k:Nat):Nat.div k 2=k/2:=rfl
  have OB:=λj=>cR f l (n/2) j x (by omega)
  have zF:=λj=>cR f r (n/2) j x (by omega)
  rcases Nat.mod_two_eq_zero_or_one n with h|h
  · simp only[e0.k5,e,h,ay]
    cases m with
    |zero=>simp[e0.get]
    |succ m=>
     simp only[e0.get,e,ay]
     rcases Nat.mod_two_eq_zero_or_one m with g|g
     · simp only[g,OB]
       have:(m/2=n/2)<->(m+1=n+1):=by omega
       simp only[this]
     · simp only[g]
       rw[if_neg (by omega)]
  · simp only[e0.k5,e,h,ay]
    cases m with
    |zero=>simp[e0.get]
    |succ m=>
     simp only[e0.get,e,ay]
     rcases Nat.mod_two_eq_zero_or_one m with g|g
     · simp only[g]
       rw[if_neg (by omega)]
     · simp only[g,zF]
       have:(m/2=n/2)<->(m+1=n+1):=by omega
       simp only[this]
theorem J.cR(h:J)(b c:Nat)(o:Option da):(h.set b o).get c=if c=b then o else h.get c:=
 e0.cR _ _ _ _ _ (Nat.lt_succ_self b)
theorem J.gk(h:J)(c:Nat)(o:da):(h.push o).get c=if c=h.n then some o else h.get c:=
 e0.cR _ _ _ _ _ (Nat.lt_succ_self _)
@[simp] theorem J.uw (h:J) (b:Nat) (o:Option da):(h.set b o).n=h.n:=rfl
@[simp] theorem J.qW (h:J) (o:da):(h.push o).n=h.n+1:=rfl
structure eM where
 bk:Nat
 base:Nat
 size:Nat
abbrev bp:=Nat->Option eM
def e2(μ aX:bp):Prop:=∀b i,μ b=some i->aX b=some i
theorem e2.refl(μ:bp):e2 μ μ:=λ_ _ h=>h
theorem e2.trans{μ aX G3:bp}(h:e2 μ aX)(an:e2 aX G3):e2 μ G3:=λb i e=>an b i (h b i e)
def Ct(i:eM)(off len:Nat):b3->Value->Prop
 |.exact c,v=>v=.slice (some ⟨i.bk,i.base+off,none⟩) len c
 |.a1 gz,v=>∃c,v=.slice (some ⟨i.bk,i.base+off,none⟩) len c/\len<=c/\off+c*gz=i.size
 |.dead,v=>len=0/\∃a c,v=.slice (some a) 0 c
mutual
def bl(μ:bp):I->Value->Prop
 |.bad,_=>True
 |.bool b,v=>v=.bool b
 |.int k n,v=>v=.int k n
 |.str s,v=>∃t,v=.string t/\t.data.toList=s
 |.bb,v=>v=.pointer none
 |.ptr b off,v=>∃i,μ b=some i/\v=.pointer (some ⟨i.bk,i.base+off,none⟩)
 |.a0,v=>v=.slice none 0 0
 |.slice b off len cap,v=>∃i,μ b=some i/\Ct i off len cap v
 |.hW,v=>v=.map none
 |.map r,v=>∃i,μ r=some i/\v=.map (some i.bk)
 |.fL,v=>v=.nilFunc
 |.fn f first aR,v=>∃bR cs,v=.func (.func f) ⟨bR⟩ ⟨cs⟩/\b_ μ first bR/\b_ μ aR cs
 |.dd l,v=>∃i,μ l=some i/\v=.func (.yield i.bk) ⟨[]⟩ ⟨[]⟩
 |.eS,v=>v=.nilIface
 |.iface t x,v=>∃y,v=.iface t y/\bl μ x y
 |.agg cs,v=>∃l,v=.agg ⟨l⟩/\b_ μ cs l
 |.aP vs,v=>∃l,v=.tuple ⟨l⟩/\b_ μ vs l
def b_(μ:bp):List I->List Value->Prop
 |[],l=>l=[]
 |a::as,l=>∃v vs,l=v::vs/\bl μ a v/\b_ μ as vs
end
mutual
theorem bl.mono{μ aX:bp}(hle:e2 μ aX):∀(a:I) (v:Value),bl μ a v->bl aX a v
 |.bad,_,_=>trivial
 |.bool _,_,h=>h
 |.int _ _,_,h=>h
 |.str _,_,h=>h
 |.bb,_,h=>h
 |.ptr b off,_,⟨i,h,e⟩=>⟨i,hle _ _ h,e⟩
 |.a0,_,h=>h
 |.slice b off len cap,_,⟨i,h,e⟩=>⟨i,hle _ _ h,e⟩
 |.hW,_,h=>h
 |.map r,_,⟨i,h,e⟩=>⟨i,hle _ _ h,e⟩
 |.fL,_,h=>h
 |.fn f first aR,_,⟨bR,cs,e,ab,ad⟩=>⟨bR,cs,e,b_.mono hle _ _ ab,b_.mono hle _ _ ad⟩
 |.dd l,_,⟨i,h,e⟩=>⟨i,hle _ _ h,e⟩
 |.eS,_,h=>h
 |.iface t x,_,⟨y,e,h⟩=>⟨y,e,bl.mono hle _ _ h⟩
 |.agg cs,_,⟨l,e,h⟩=>⟨l,e,b_.mono hle _ _ h⟩
 |.aP cs,_,⟨l,e,h⟩=>⟨l,e,b_.mono hle _ _ h⟩
theorem b_.mono{μ aX:bp}(hle:e2 μ aX):∀(as:List I) (vs:List Value),b_ μ as vs->b_ aX as vs
 |[],_,h=>h
 |a::as,_,⟨v,vs,e,ab,ad⟩=>⟨v,vs,e,bl.mono hle _ _ ab,b_.mono hle _ _ ad⟩
end
mutual
theorem jY(μ:bp):∀v:Value,bl μ (nO v) v
 |.bool b=>rfl
 |.int k n=>rfl
 |.string s=>⟨s,rfl,rfl⟩
 |.pointer none=>rfl
 |.pointer (some _)=>trivial
 |.slice none 0 0=>rfl
 |.slice none 0 (_+1)=>trivial
 |.slice none (_+1) _=>trivial
 |.slice (some _) _ _=>trivial
 |.map none=>rfl
 |.map (some _)=>trivial
 |.nilFunc=>rfl
 |.nilIface=>rfl
 |.agg ⟨cs⟩=>⟨cs,rfl,Cu μ cs⟩
 |.tuple ⟨cs⟩=>⟨cs,rfl,Cu μ cs⟩
 |.float _ _=>trivial
 |.complex _ _ _=>trivial
 |.chan _=>trivial
 |.func _ _ _=>trivial
 |.iface _ _=>trivial
theorem Cu(μ:bp):∀vs:List Value,b_ μ (zv vs) vs
 |[]=>rfl
 |v::vs=>⟨v,vs,rfl,jY μ v,Cu μ vs⟩
end
theorem b_.length{μ:bp}:∀{as:List I} {vs:List Value},b_ μ as vs->as.length=vs.length
 |[],_,h=>by cases h;rfl
 |a::as,_,⟨v,vs,e,_,ad⟩=>by subst e;simp[b_.length ad]
theorem b_.append{μ:bp}:∀{as bs:List I} {vs us:List Value},b_ μ as vs->b_ μ bs us->b_ μ (as++bs) (vs++us)
 |[],_,_,_,h,an=>by cases h;exact an
 |a::as,_,_,_,⟨v,vs,e,ab,ad⟩,an=>by subst e;exact⟨v,vs++_,rfl,ab,b_.append ad an⟩
theorem b_.get{μ:bp}:∀{as:List I} {vs:List Value} (_:b_ μ as vs) {j:Nat} {a:I},as[j]? =some a->∃v,vs[j]? =some v/\bl μ a v
 |[],_,_,j,a,h=>by simp at h
 |x::as,_,⟨v,vs,e,ab,ad⟩,0,a,h=>by
  subst e;simp at h;subst h;exact⟨v,rfl,ab⟩
 |x::as,_,⟨v,vs,e,ab,ad⟩,j+1,a,h=>by
  subst e;simp at h;simpa using b_.get ad h
theorem b_.wU{μ:bp}:∀{as:List I} {vs:List Value},as.length=vs.length->(∀(j:Nat) (a:I),as[j]? =some a->∃v,vs[j]? =some v/\bl μ a v)->b_ μ as vs
 |[],[],_,_=>rfl
 |[],_::_,h,_=>by simp at h
 |_::_,[],h,_=>by simp at h
 |a::as,v::vs,h,ai=>by
  refine⟨v,vs,rfl,?_,b_.wU (by simpa using h) λj x aa=>?_⟩
  · obtain⟨u,hu,r⟩:=ai 0 a rfl
    simp at hu;subst hu;exact r
  · simpa using ai (j+1) x (by simpa using aa)
theorem b_.map{μ:bp}{sv:Type}(g:sv->I)(cr:sv->Value)(h:∀x,bl μ (g x) (cr x)):∀l:List sv,b_ μ (l.map g) (l.map cr)
 |[]=>rfl
 |x::l=>⟨_,_,rfl,h x,b_.map g cr h l⟩
theorem bl.cells{μ:bp}{a:I}{v:Value}(h:bl μ a v)(ae:a≠ .bad):b_ μ a.cells v.cells.toList:=by
 cases a with
 |bad=>exact absurd rfl ae
 |agg cs=>obtain⟨l,rfl,aw⟩:=h;exact aw
 |aP vs=>obtain⟨l,rfl,aw⟩:=h;exact⟨_,_,rfl,⟨l,rfl,aw⟩,rfl⟩
 |bool b=>cases h;exact⟨_,_,rfl,rfl,rfl⟩
 |int k n=>cases h;exact⟨_,_,rfl,rfl,rfl⟩
 |str s=>obtain⟨t,rfl,e⟩:=h;exact⟨_,_,rfl,⟨t,rfl,e⟩,rfl⟩
 |bb=>cases h;exact⟨_,_,rfl,rfl,rfl⟩
 |ptr b off=>obtain⟨i,e,rfl⟩:=h;exact⟨_,_,rfl,⟨i,e,rfl⟩,rfl⟩
 |a0=>cases h;exact⟨_,_,rfl,rfl,rfl⟩
 |slice b off len cap=>
  obtain⟨i,e,ag⟩:=h
  have:v.cells=#[v]:=by
   cases cap with
   |exact c=>cases ag;rfl
   |a1 gz=>obtain⟨c,rfl,_⟩:=ag;rfl
   |dead=>obtain⟨_,a,c,rfl⟩:=ag;rfl
  rw[this];exact⟨_,_,rfl,⟨i,e,ag⟩,rfl⟩
 |hW=>cases h;exact⟨_,_,rfl,rfl,rfl⟩
 |map r=>obtain⟨i,e,rfl⟩:=h;exact⟨_,_,rfl,⟨i,e,rfl⟩,rfl⟩
 |fL=>cases h;exact⟨_,_,rfl,rfl,rfl⟩
 |fn f a b=>obtain⟨bR,cs,rfl,ab,ad⟩:=h;exact⟨_,_,rfl,⟨bR,cs,rfl,ab,ad⟩,rfl⟩
 |dd l=>obtain⟨i,e,rfl⟩:=h;exact⟨_,_,rfl,⟨i,e,rfl⟩,rfl⟩
 |eS=>cases h;exact⟨_,_,rfl,rfl,rfl⟩
 |iface t x=>obtain⟨y,rfl,aW⟩:=h;exact⟨_,_,rfl,⟨y,rfl,aW⟩,rfl⟩
theorem bl.wV{μ:bp}{a:I}{v:Value}(h:bl μ a v)(ag:a.cQ=true):v.oneCell'=true:=by
 cases a with
 |bad=>simp[I.cQ] at ag
 |agg cs=>simp[I.cQ] at ag
 |aP vs=>simp[I.cQ] at ag
 |bool b=>cases h;rfl
 |int k n=>cases h;rfl
 |str s=>obtain⟨t,rfl,e⟩:=h;rfl
 |bb=>cases h;rfl
 |ptr b off=>obtain⟨i,e,rfl⟩:=h;rfl
 |a0=>cases h;rfl
 |slice b off len cap=>
  obtain⟨i,e,ag⟩:=h
  cases cap with
  |exact c=>cases ag;rfl
  |a1 gz=>obtain⟨c,rfl,_⟩:=ag;rfl
  |dead=>obtain⟨_,a,c,rfl⟩:=ag;rfl
 |hW=>cases h;rfl
 |map r=>obtain⟨i,e,rfl⟩:=h;rfl
 |fL=>cases h;rfl
 |fn f a b=>obtain⟨bR,cs,rfl,ab,ad⟩:=h;rfl
 |dd l=>obtain⟨i,e,rfl⟩:=h;rfl
 |eS=>cases h;rfl
 |iface t x=>obtain⟨y,rfl,aW⟩:=h;rfl
def ix(need:Nat)(μ:bp)(r:aY)(ca:Array Value):Prop:=∀t,Nat.testBit need t=true->bl μ (r.get (gU t)) (ca.getD t undef)
theorem ix.mono{need:Nat}{μ aX:bp}{r:aY}{ca:Array Value}(hle:e2 μ aX)(h:ix need μ r ca):ix need aX r ca:=λt a_=>(h t a_).mono hle
inductive sw(μ:bp):bQ->Deferred->Prop where
 |call (f:Nat) (args:List I) (cap vs:List Value) (h:b_ μ args (vs++cap)):sw μ (.call f args) {target:=.fn (.func f) ⟨cap⟩,args:=⟨vs⟩}
 |collected (r:Nat) (i:eM) (h:μ r=some i):sw μ (.collected r) {target:=.collected i.bk,args:=#[]}
theorem sw.mono{μ aX:bp}(hle:e2 μ aX){a:bQ}{d:Deferred}(h:sw μ a d):sw aX a d:=by
 cases h with
 |call f args cap vs h=>exact .call f args cap vs (h.mono hle)
 |collected r i h=>exact .collected r i (hle _ _ h)
def gl(μ:bp):List bQ->List Deferred->Prop
 |[],l=>l=[]
 |a::as,l=>∃d ds,l=d::ds/\sw μ a d/\gl μ as ds
theorem gl.mono{μ aX:bp}(hle:e2 μ aX):∀{as:List bQ} {ds:List Deferred},gl μ as ds->gl aX as ds
 |[],_,h=>h
 |_::_,_,⟨d,ds,e,ab,ad⟩=>⟨d,ds,e,ab.mono hle,gl.mono hle ad⟩
theorem gl.append{μ:bp}:∀{as bs:List bQ} {ds es:List Deferred},gl μ as ds->gl μ bs es->gl μ (as++bs) (ds++es)
 |[],_,_,_,h,an=>by cases h;exact an
 |_::_,_,_,_,⟨d,ds,e,ab,ad⟩,an=>by subst e;exact⟨d,ds++_,rfl,ab,gl.append ad an⟩
def qX(μ:bp)(e:dK)(m:MapEntry):Prop:=bl μ e.key m.key/\bl μ e.val m.val/\e.born=m.born
def fQ(μ:bp):List dK->List MapEntry->Prop
 |[],l=>l=[]
 |e::es,l=>∃m ms,l=m::ms/\qX μ e m/\fQ μ es ms
theorem qX.mono{μ aX:bp}(hle:e2 μ aX){e:dK}{m:MapEntry}(h:qX μ e m):qX aX e m:=⟨h.1.mono hle,h.2.1.mono hle,h.2.2⟩
theorem fQ.mono{μ aX:bp}(hle:e2 μ aX):∀{es:List dK} {ms:List MapEntry},fQ μ es ms->fQ aX es ms
 |[],_,h=>h
 |_::_,_,⟨m,ms,e,ab,ad⟩=>⟨m,ms,e,ab.mono hle,fQ.mono hle ad⟩
def zG(μ:bp)(cs:List I)(c:Array Value)(base:Nat):Prop:=∀(j:Nat) (v:I),cs[j]? =some v->∃u,c[base+j]? =some u/\bl μ v u
def G4(k:gE)(cs:List I)(i:eM)(aN af gm gn:Nat):Prop:=match k with
 |.own=>i.base=0/\i.size=cs.length/\gm=aN/\gn=af
 |.a1=>cs.length<=i.size/\∀j,j<i.size->gm<=i.base+j->i.base+j<gn->aN<=j/\j<af
 |.ro=>True
 |.fz=>True
def oU(μ:bp)(o:da)(i:eM)(w:World):Prop:=match o with
 |.cells cs el k aN af=>∃c gm gn,w.heap[i.bk]? =some (.cells c el (gm,gn))/\zG μ cs c i.base/\i.base+i.size=c.size/\G4 k cs i aN af gm gn
 |.map es clock=>∃ents,w.heap[i.bk]? =some (.map ⟨ents⟩ clock)/\fQ μ es ents
 |.qL s pos=>i.base=0/\∃full,w.heap[i.bk]? =some (.stringIter full pos)/\full.data.toList.drop pos=s
 |.mapIter none since seen last=>i.base=0/\w.heap[i.bk]? =some (.mapIter none since ⟨seen⟩ last)
 |.mapIter (some m) since seen last=>i.base=0/\∃j,μ m=some j/\w.heap[i.bk]? =some (.mapIter (some j.bk) since ⟨seen⟩ last)
 |.loop st fM need mb params as cf eD=>∃ca hF fn,μ eD=some hF/\w.heap[i.bk]? =some (.loop {state:=st,pending:=fM,fn:=fn,tmps:=ca,params:=⟨params⟩,assign:=as,body:=cf,defers:=hF.bk})/\ix need μ mb ca/\hp ca.size as=true/\hp ca.size cf=true/\∀t∈params,t<ca.size
 |.defrd none=>w.heap[i.bk]? =some (.deferred none)
 |.defrd (some ds)=>∃l,w.heap[i.bk]? =some (.deferred (some l))/\gl μ ds l
 |.raw o=>i.base=0/\w.heap[i.bk]? =some o
theorem oU.mono{μ aX:bp}(hle:e2 μ aX){o:da}{i:eM}{w w':World}(hw:w'.heap[i.bk]? =w.heap[i.bk]?)(h:oU μ o i w):oU aX o i w':=by
 cases o with
 |cells cs el k aN af=>
  obtain⟨c,gm,gn,ab,ad,ar⟩:=h
  exact⟨c,gm,gn,hw.trans ab,λj v e=>let⟨u,hu,r⟩:=ad j v e;⟨u,hu,r.mono hle⟩,ar⟩
 |map es clock=>obtain⟨ents,ab,ad⟩:=h;exact⟨ents,hw.trans ab,ad.mono hle⟩
 |qL s pos=>obtain⟨h0,full,ab,ad⟩:=h;exact⟨h0,full,hw.trans ab,ad⟩
 |mapIter m since seen last=>
  cases m with
  |none=>exact⟨h.1,hw.trans h.2⟩
  |some m=>obtain⟨h0,j,ab,ad⟩:=h;exact⟨h0,j,hle _ _ ab,hw.trans ad⟩
 |loop st fM fn mb params as cf eD=>obtain⟨ca,hF,Cv,ab,ad,ar,aJ⟩:=h;exact⟨ca,hF,Cv,hle _ _ ab,hw.trans ad,ar.mono hle,aJ⟩
 |defrd calls=>
  cases calls with
  |none=>exact hw.trans h
  |some ds=>obtain⟨l,ab,ad⟩:=h;exact⟨l,hw.trans ab,ad.mono hle⟩
 |raw o=>exact⟨h.1,hw.trans h.2⟩
def da.oV:da->Bool
 |.cells _ _ .ro _ _=>true
 |.raw _=>true
 |_=>false
structure br(μ:bp)(H:J)(w:World):Prop where
 rel:∀b o i,H.get b=some o->μ b=some i->oU μ o i w
 inj:∀b c i j,H.get b≠none->(∃o,H.get c=some o/\o.oV=false)->μ b=some i->μ c=some j->i.bk=j.bk->b=c
 lt:∀b i,μ b=some i->b<H.n/\i.bk<w.heap.size
 bound:∀b,H.n<=b->H.get b=none
structure b7(μ:bp)(H:J)(w:World)(aX:bp)(aV:J)(w':World):Prop where
 le:e2 μ aX
 size:w.heap.size<=w'.heap.size
 n:H.n<=aV.n
 live:∀b,b<H.n->aV.get b≠none->H.get b≠none
 idle:∀b,b<H.n->μ b=none->aV.get b=H.get b
 old:∀r,r<w.heap.size->(∀b i,H.get b≠none->μ b=some i->i.bk≠r)->w'.heap[r]? =w.heap[r]?
 new:∀b i,μ b=none->aX b=some i->H.n<=b/\(w.heap.size<=i.bk\/∃c o j,H.get c=some o/\o.oV=false/\μ c=some j/\j.bk=i.bk)
 ro:∀b o i,H.get b=some o->o.oV=true->μ b=some i->aV.get b=some o/\w'.heap[i.bk]? =w.heap[i.bk]?
 os:w'.os=w.os
 out:w'.output=w.output
 tape:w'.tape=w.tape
 drawn:w.drawn<=w'.drawn
theorem b7.refl(μ:bp)(H:J)(w:World):b7 μ H w μ H w where
 le:=e2.refl μ
 size:=Nat.le_refl _
 n:=Nat.le_refl _
 live:=λ_ _ h=>h
 idle:=λ_ _ _=>rfl
 old:=λ_ _ _=>rfl
 new:=λb i h an=>by rw[h] at an;cases an
 ro:=λ_ _ _ h _ _=>⟨h,rfl⟩
 os:=rfl
 out:=rfl
 tape:=rfl
 drawn:=Nat.le_refl _
theorem b7.trans{μ hG ux:bp}{H H1 aQ:J}{w cK cG:World}(ai:br μ H w)(iL:br hG H1 cK)(h:b7 μ H w hG H1 cK)(an:b7 hG H1 cK ux aQ cG):b7 μ H w ux aQ cG where
 le:=h.le.trans an.le
 size:=Nat.le_trans h.size an.size
 n:=Nat.le_trans h.n an.n
 live:=λb ae aw=>h.live b ae (an.live b (Nat.lt_of_lt_of_le ae h.n) aw)
 idle:=λb ae hm=>by
  rw[<-h.idle b ae hm]
  refine an.idle b (Nat.lt_of_lt_of_le ae h.n) ?_
  cases ab:hG b with
  |none=>rfl
  |some i=>exact absurd (h.new b i hm ab).1 (Nat.not_le.2 ae)
 old:=λr ak aK=>by
  rw[an.old r (Nat.lt_of_lt_of_le ak h.size),h.old r ak aK]
  intro b i aw hm he
  cases zH:μ b with
  |some j=>
   have:=h.le b j zH
   rw[hm] at this;cases this
   exact aK b i (h.live b (ai.lt b i zH).1 aw) zH he
  |none=>
   obtain⟨_,af|⟨c,o,j,ag,_,aL,nT⟩⟩:=h.new b i zH hm
   · omega
   · exact aK c j (by rw[ag];simp) aL (nT.trans he)
 new:=λb i ae fw=>by
  cases ab:hG b with
  |some j=>
   have:=an.le b j ab
   rw[fw] at this;cases this
   exact h.new b i ae ab
  |none=>
   obtain⟨aK,af|⟨c,o,j,ag,g_,aL,nT⟩⟩:=an.new b i ab fw
   · exact⟨Nat.le_trans h.n aK,.inl (Nat.le_trans h.size af)⟩
   · refine⟨Nat.le_trans h.n aK,?_⟩
     cases h0:μ c with
     |some jF=>
      have:=h.le c jF h0
      rw[aL] at this;cases this
      have uy:H.get c≠none:=h.live c (ai.lt c j h0).1 (by rw[ag];simp)
      cases al:H.get c with
      |none=>exact absurd al uy
      |some Cw=>
       cases zI:Cw.oV with
       |false=>exact .inr ⟨c,Cw,j,al,zI,h0,nT⟩
       |true=>
        have:=(h.ro c Cw j al zI h0).1
        rw[ag] at this;cases this
        rw[g_] at zI;cases zI
     |none=>
      obtain⟨_,af|⟨c',o',jF,oW,OC,gF,OD⟩⟩:=h.new c j h0 aL
      · exact .inl (nT▸af)
      · exact .inr ⟨c',o',jF,oW,OC,gF,OD.trans nT⟩
 ro:=λb o i ae ak af=>by
  obtain⟨ab,ad⟩:=h.ro b o i ae ak af
  obtain⟨ar,aJ⟩:=an.ro b o i ab ak (h.le b i af)
  exact⟨ar,aJ.trans ad⟩
 os:=an.os.trans h.os
 out:=an.out.trans h.out
 tape:=an.tape.trans h.tape
 drawn:=Nat.le_trans h.drawn an.drawn
theorem br.of_heap{μ:bp}{H:J}{w w':World}(h:br μ H w)(he:w'.heap=w.heap):br μ H w' where
 rel:=λb o i ae af=>(h.rel b o i ae af).mono (e2.refl μ) (by rw[he])
 inj:=h.inj
 lt:=λb i af=>by rw[he];exact h.lt b i af
 bound:=h.bound
theorem b7.of_heap{μ:bp}{H:J}{w w':World}(he:w'.heap=w.heap)(a2:w'.os=w.os)(aO:w'.output=w.output)(a_:w'.tape=w.tape)(ao:w.drawn<=w'.drawn:=by first|exact Nat.le_refl _|exact Nat.le_succ _|assumption):b7 μ H w μ H w' where
 le:=e2.refl μ
 size:=by rw[he];exact Nat.le_refl _
 n:=Nat.le_refl _
 live:=λ_ _ h=>h
 idle:=λ_ _ _=>rfl
 old:=λ_ _ _=>by rw[he]
 new:=λb i h an=>by rw[h] at an;cases an
 ro:=λ_ _ _ h _ _=>⟨h,by rw[he]⟩
 os:=a2
 out:=aO
 tape:=a_
 drawn:=ao
def fm(μ:bp)(b:Nat)(i:eM):bp:=λc=>if c=b then some i else μ c
theorem gp(μ:bp)(b:Nat)(i:eM):fm μ b i b=some i:=by simp[fm]
theorem ha(μ:bp){b c:Nat}(i:eM)(h:c≠b):fm μ b i c=μ c:=by simp[fm,h]
theorem br.fresh{μ:bp}{H:J}{w:World}(h:br μ H w):μ H.n=none:=by
 cases e:μ H.n with
 |none=>rfl
 |some i=>exact absurd (h.lt _ _ e).1 (Nat.lt_irrefl _)
theorem br.nU{μ:bp}{H:J}{w:World}(h:br μ H w)(i:eM):e2 μ (fm μ H.n i):=λb j e=>by
 rw[ha];exact e
 intro ae;subst ae;rw[h.fresh] at e;cases e
theorem br.alloc{μ:bp}{H:J}{w:World}(h:br μ H w)(o:da)(x:Obj)(sz:Nat)
  (ak:oU (fm μ H.n ⟨w.heap.size,0,sz⟩) o ⟨w.heap.size,0,sz⟩ (w.alloc x)):
  br (fm μ H.n ⟨w.heap.size,0,sz⟩) (H.push o) (w.alloc x)/\b7 μ H w (fm μ H.n ⟨w.heap.size,0,sz⟩) (H.push o) (w.alloc x):=by
 have hle:=h.nU ⟨w.heap.size,0,sz⟩
 have hold:∀r,r<w.heap.size->(w.alloc x).heap[r]? =w.heap[r]? :=λr ak=>by
  simp only[World.alloc,Array.getElem?_push];rw[if_neg (by omega)]
 constructor
 · refine⟨λb cq i ae af=>?_,λb c i j ae ag af aL e=>?_,λb i af=>?_,λb ae=>?_⟩
   · rw[J.gk] at ae
     by_cases e:b=H.n
     · rw[if_pos e] at ae;subst e;cases ae
       rw[gp] at af;cases af
       exact ak
     · rw[if_neg e] at ae;rw[ha _ _ e] at af
       exact(h.rel b cq i ae af).mono hle (hold _ (h.lt b i af).2)
   · by_cases aA:b=H.n
     · by_cases ay:c=H.n
       · rw[aA,ay]
       · subst aA;rw[gp] at af;cases af
         rw[ha _ _ ay] at aL
         have:=(h.lt c j aL).2
         simp only at e;omega
     · by_cases ay:c=H.n
       · subst ay;rw[gp] at aL;cases aL
         rw[ha _ _ aA] at af
         have:=(h.lt b i af).2
         simp only at e;omega
       · rw[ha _ _ aA] at af;rw[ha _ _ ay] at aL
         rw[J.gk,if_neg aA] at ae
         rw[J.gk,if_neg ay] at ag
         exact h.inj b c i j ae ag af aL e
   · by_cases e:b=H.n
     · subst e;rw[gp] at af;cases af;simp
     · rw[ha _ _ e] at af
       have:=h.lt b i af
       simp only[J.qW,World.size_alloc];omega
   · simp only[J.qW] at ae
     rw[J.gk,if_neg (by omega)];exact h.bound b (by omega)
 · refine⟨hle,by simp,by simp,λb ae aw=>?_,λb ae _=>(by rw[J.gk,if_neg (by omega)]),λr ak _=>hold r ak,λb i ae fw=>?_,λb cq i ae _ af=>?_,rfl,rfl,rfl,Nat.le_refl _⟩
   · rw[J.gk,if_neg (by omega)] at aw;exact aw
   · by_cases e:b=H.n
     · subst e;rw[gp] at fw;cases fw;exact⟨Nat.le_refl _,.inl (Nat.le_refl _)⟩
     · rw[ha _ _ e,ae] at fw;cases fw
   · have:=h.lt b i af
     rw[J.gk,if_neg (by omega)]
     exact⟨ae,hold _ this.2⟩
theorem br.update{μ:bp}{H:J}{w w':World}(h:br μ H w){b:Nat}{o o':da}{i:eM}(ae:H.get b=some o)(g_:o.oV=false)(af:μ b=some i)
  (hs:w'.heap.size=w.heap.size)(a2:∀r,r≠i.bk->w'.heap[r]? =w.heap[r]?)(wW:w'.os=w.os)(Cx:w'.output=w.output)(Cy:w'.tape=w.tape)(ak:oU μ o' i w')(hdr:w.drawn<=w'.drawn:=by first|exact Nat.le_refl _|assumption):
  br μ (H.set b (some o')) w'/\b7 μ H w μ (H.set b (some o')) w':=by
 have uy:H.get b≠none:=by rw[ae];simp
 have pS:∀c,(H.set b (some o')).get c≠none->H.get c≠none:=λc ag=>by
  rw[J.cR] at ag
  by_cases e:c=b
  · subst e;exact uy
  · rw[if_neg e] at ag;exact ag
 constructor
 · refine⟨λc fD j ag aL=>?_,λc d j k ag ao=>h.inj c d j k (pS c ag) (by
     obtain⟨x,aa,oX⟩:=ao
     rw[J.cR] at aa
     by_cases e:d=b
     · subst e;exact⟨o,ae,g_⟩
     · rw[if_neg e] at aa;exact⟨x,aa,oX⟩),λc j aL=>by rw[hs];exact h.lt c j aL,λc ag=>?_⟩
   · rw[J.cR] at ag
     by_cases e:c=b
     · subst e;rw[if_pos rfl] at ag;cases ag
       rw[af] at aL;cases aL;exact ak
     · rw[if_neg e] at ag
       refine(h.rel c fD j ag aL).mono (e2.refl μ) (a2 _ λcH=>e (h.inj c b j i (by rw[ag];simp) ⟨o,ae,g_⟩ aL af cH))
   · rw[J.cR,if_neg]
     · exact h.bound c ag
     · intro e;subst e;have:=(h.lt c i af).1;simp at ag;omega
 · refine⟨e2.refl μ,by omega,by simp,λc _ ag=>pS c ag,λc _ hm=>(by rw[J.cR,if_neg];intro e;subst e;rw[af] at hm;cases hm),λr ak aK=>a2 r λe=>aK b i uy af e.symm,λc j ab ad=>(by rw[ab] at ad;cases ad),λc fD j ag qY aL=>?_,wW,Cx,Cy,hdr⟩
   have cV:c≠b:=by intro e;subst e;rw[ae] at ag;cases ag;rw[g_] at qY;cases qY
   refine⟨by rw[J.cR,if_neg cV];exact ag,a2 _ λe=>cV (h.inj c b j i (by rw[ag];simp) ⟨o,ae,g_⟩ aL af e)⟩
end aM
namespace aM
open Go
theorem add_plain(b o n:Nat):(⟨b,o,none⟩:Addr).add n=⟨b,o+n,none⟩:=by
 unfold Addr.add
 by_cases h:n=0
 · simp[h]
 · simp[h]
theorem pU{α:Type}:∀(n:Nat) (l:List α),nth n l=l[n]?
 |0,[]=>rfl
 |_+1,[]=>rfl
 |0,_::_=>rfl
 |n+1,_::l=>by simpa[nth] using pU n l
theorem m5{α:Type}:∀(n:Nat) (l:List α),jn n l=l.drop n
 |0,l=>by simp[jn]
 |_+1,[]=>by simp[jn]
 |n+1,_::l=>by simpa[jn] using m5 n l
theorem sx:∀(n:Nat) (l r:List I),takeN n l=some r->n<=l.length/\r=l.take n
 |0,l,r,h=>by simp[takeN] at h;subst h;simp
 |_+1,[],r,h=>by simp[takeN] at h
 |n+1,a::l,r,h=>by
  simp only[takeN] at h
  cases e:takeN n l with
  |none=>simp[e] at h
  |some r'=>
   simp[e] at h;subst h
   obtain⟨ab,ad⟩:=sx n l r' e
   simp[ad];omega
theorem zJ:∀(n:Nat) (vs cs r:List I),fN n vs cs=some r->
  r.length=cs.length/\(vs≠[]->n+vs.length<=cs.length)/\(∀v∈vs,v.cQ=true)/\∀j,r[j]? =if n<=j/\j<n+vs.length then vs[j-n]? else cs[j]?
 |0,[],cs,r,h=>by
  simp[fN] at h;subst h
  refine⟨rfl,λh=>absurd rfl h,λv aB=>(by cases aB),λj=>by rw[if_neg (by simp)]⟩
 |0,_::_,[],r,h=>by simp[fN] at h
 |0,v::vs,c::cs,r,h=>by
  simp only[fN] at h
  cases ag:v.cQ with
  |false=>simp[ag] at h
  |true=>
   simp only[ag] at h
   cases e:fN 0 vs cs with
   |none=>simp[e] at h
   |some r'=>
    simp[e] at h;subst h
    obtain⟨ab,ad,ar,aJ⟩:=zJ 0 vs cs r' e
    refine⟨by simp[ab],λ_=>?_,λx aa=>?_,λj=>?_⟩
    · cases vs with
      |nil=>simp
      |cons a l=>have:=ad (by simp);simp at this⊢;omega
    · cases aa with
      |head=>exact ag
      |tail _ aa=>exact ar x aa
    · cases j with
      |zero=>simp
      |succ j=>simpa using aJ j
 |n+1,[],cs,r,h=>by
  simp[fN] at h;subst h
  refine⟨rfl,λh=>absurd rfl h,λv aB=>(by cases aB),λj=>by rw[if_neg (by simp)]⟩
 |n+1,_::_,[],r,h=>by simp[fN] at h
 |n+1,v::vs,c::cs,r,h=>by
  simp only[fN] at h
  cases e:fN n (v::vs) cs with
  |none=>simp[e] at h
  |some r'=>
   simp[e] at h;subst h
   obtain⟨ab,ad,ar,aJ⟩:=zJ n (v::vs) cs r' e
   refine⟨by simp[ab],λ_=>?_,ar,λj=>?_⟩
   · have:=ad (by simp);simp at this⊢;omega
   · cases j with
     |zero=>simp
     |succ j=>
      have:=aJ j
      simp only[List.getElem?_cons_succ,this,List.length_cons]
      have aA:(n+1<=j+1/\j+1<n+1+(vs.length+1))<->(n<=j/\j<n+(vs.length+1)):=by omega
      have ay:j+1-(n+1)=j-n:=by omega
      simp only[aA,ay]
theorem uz{w:World}{bk el gm gn:Nat}{c:Array Value}(h:w.heap[bk]? =some (.cells c el (gm,gn)))(k:Nat):w.cell? ⟨bk,k,none⟩=c[k]? :=by
 simp[World.cell?,h]
theorem G5{μ:bp}{H:J}{w:World}(ai:br μ H w){b off:Nat}{i:eM}(af:μ b=some i){cs:List I}{el aN eJ:Nat}{k:gE}(ae:H.get b=some (.cells cs el k aN eJ))
  {v:I}(aB:cs[off]? =some v):∃u,w.cell? ⟨i.bk,i.base+off,none⟩=some u/\bl μ v u:=by
 obtain⟨c,gm,gn,ab,ad,_⟩:=ai.rel b _ i ae af
 obtain⟨u,hu,r⟩:=ad off v aB
 exact⟨u,by rw[uz ab,hu],r⟩
theorem G6{P:Program}{w:World}{a:Addr}{u:Value}(h:w.cell? a=some u):(_root_.Go.load a).run P w=.ok u w:=by
 rw[run_load];simp[h]
theorem OE{P:Program}{μ:bp}{H:J}{w:World}(ai:br μ H w){b:Nat}{i:eM}(af:μ b=some i){cs:List I}{el aN eJ:Nat}{k:gE}(ae:H.get b=some (.cells cs el k aN eJ))(off:Nat):
  ∀(n s:Nat) (acc:Array Value) (qZ:List I),takeN n (jn (off+s) cs)=some qZ->
   ∃us:List Value,(loadCellsFrom ⟨i.bk,i.base+off,none⟩ s n acc).run P w=.ok (acc++us.toArray) w/\b_ μ qZ us:=by
 intro n
 induction n with
 |zero=>
  intro s acc qZ h
  simp[takeN] at h;subst h
  exact⟨[],by simp[loadCellsFrom],rfl⟩
 |succ n a6=>
  intro s acc qZ h
  rw[m5] at h
  cases ao:cs.drop (off+s) with
  |nil=>rw[ao] at h;simp[takeN] at h
  |cons a l=>
   rw[ao] at h
   simp only[takeN] at h
   cases e:takeN n l with
   |none=>simp[e] at h
   |some r=>
    simp[e] at h;subst h
    have aS:cs[off+s]? =some a:=by
     have:=congrArg (·[0]?) ao
     simpa[List.getElem?_drop] using this
    have aw:l=jn (off+(s+1)) cs:=by
     rw[m5]
     have:=congrArg (List.drop 1) ao
     simp only[List.drop_drop,List.drop_succ_cons,List.drop_zero] at this
     rw[<-this];congr 1
    obtain⟨u,hu,ak⟩:=G5 ai af ae aS
    obtain⟨us,ab,ad⟩:=a6 (s+1) (acc.push u) r (by rw[<-aw];exact e)
    refine⟨u::us,?_,⟨u,us,rfl,ak,ad⟩⟩
    have mf:w.cell? ((⟨i.bk,i.base+off,none⟩:Addr).add s)=some u:=by rw[add_plain,Nat.add_assoc];exact hu
    simp only[loadCellsFrom,Sem.run_bind,G6 mf,Result.andThen_ok,ab]
    congr 1
    apply Array.ext'
    simp
theorem q0{P:Program}{μ:bp}{H:J}{w:World}(ai:br μ H w){b off n:Nat}{i:eM}(af:μ b=some i){qZ:List I}(h:loadCells H b off n=some qZ):
  ∃us:List Value,(_root_.Go.loadCells ⟨i.bk,i.base+off,none⟩ n).run P w=.ok ⟨us⟩ w/\b_ μ qZ us:=by
 unfold loadCells at h
 split at h
 · rename_i cs el k aN eJ ae
   obtain⟨us,ab,ad⟩:=OE (P:=P) ai af ae off n 0 #[] qZ h
   exact⟨us,by simpa[_root_.Go.loadCells] using ab,ad⟩
 · cases h
theorem Cz{P:Program}{μ:bp}{H:J}{w:World}(ai:br μ H w){b off:Nat}{i:eM}(af:μ b=some i){v:I}(h:au H b off=some v):
  ∃u,(_root_.Go.load ⟨i.bk,i.base+off,none⟩).run P w=.ok u w/\bl μ v u:=by
 unfold au at h
 split at h
 · rename_i cs el k aN eJ ae
   rw[pU] at h
   obtain⟨u,hu,ak⟩:=G5 ai af ae h
   exact⟨u,G6 hu,ak⟩
 · cases h
theorem G7(P:Program)(bk k:Nat):∀(vs:List Value) (w:World) (i:Nat) (c:Array Value) (el gm gn:Nat),w.heap[bk]? =some (.cells c el (gm,gn))->
  (∀v∈vs,v.oneCell'=true)->k+i+vs.length<=c.size->(∀j,k+i<=j->j<k+i+vs.length->¬(gm<=j/\j<gn))->
  ∃w' c',(_root_.Go.storeCells ⟨bk,k,none⟩ vs i).run P w=.ok () w'/\w'.heap[bk]? =some (.cells c' el (gm,gn))/\(∀r,r≠bk->w'.heap[r]? =w.heap[r]?)/\w'.heap.size=w.heap.size/\
   w'.os=w.os/\w'.output=w.output/\(w'.tape=w.tape/\w'.drawn=w.drawn)/\c'.size=c.size/\∀j,c'[j]? =if k+i<=j/\j<k+i+vs.length then vs[j-(k+i)]? else c[j]? :=by
 intro vs
 induction vs with
 |nil=>
  intro w i c el gm gn ae _ _ _
  exact⟨w,c,by simp[_root_.Go.storeCells],ae,λ_ _=>rfl,rfl,rfl,rfl,⟨rfl,rfl⟩,rfl,λj=>by rw[if_neg (by simp)]⟩
 |cons v vs a6=>
  intro w i c el gm gn ae ag hs hf
  simp only[List.length_cons] at hs hf
  have b8:k+i<c.size:=by omega
  have lE:w.cell? ⟨bk,k+i,none⟩=some c[k+i]:=by rw[uz ae];exact Array.getElem?_eq_getElem b8
  have OF:w.frozen? ⟨bk,k+i,none⟩=false:=by
   have:=hf (k+i) (by omega) (by omega)
   simp only[World.frozen?,ae]
   cases ab:decide (gm<=k+i) with
   |false=>rfl
   |true=>
    cases ad:decide (k+i<gn) with
    |false=>rfl
    |true=>exact absurd ⟨of_decide_eq_true ab,of_decide_eq_true ad⟩ this
  have jZ:(w.setCell ⟨bk,k+i,none⟩ v).heap[bk]? =some (.cells (c.setIfInBounds (k+i) v) el (gm,gn)):=by
   simp[World.setCell,Array.getElem?_modify,ae]
  obtain⟨w',c',ab,ad,ar,aJ,bO,cj,db,hq,gW⟩:=a6 (w.setCell ⟨bk,k+i,none⟩ v) (i+1) (c.setIfInBounds (k+i) v) el gm gn jZ (λx aa=>ag x (.tail _ aa)) (by simp;omega)
   (λj ab5 oY=>hf j (by omega) (by omega))
  refine⟨w',c',?_,ad,λr ak=>?_,?_,bO,cj,db,by simpa using hq,λj=>?_⟩
  · simp only[_root_.Go.storeCells,Sem.run_bind,add_plain,run_store P w ⟨bk,k+i,none⟩ v .plain (ag v (.head _)),lE,OF,Bool.false_eq_true,if_false,Result.andThen_ok,ab]
  · rw[ar r ak];simp only[World.setCell,Array.getElem?_modify]
    rw[if_neg (λe=>ak e.symm)]
  · rw[aJ];simp[World.setCell]
  · rw[gW j]
    by_cases e:j=k+i
    · subst e
      rw[if_neg (by omega),if_pos (by simp),Array.getElem?_setIfInBounds]
      simp[b8]
    · by_cases ay:k+(i+1)<=j/\j<k+(i+1)+vs.length
      · rw[if_pos ay,if_pos (by simp only[List.length_cons];omega)]
        have:j-(k+i)=(j-(k+(i+1)))+1:=by omega
        rw[this];simp
      · rw[if_neg ay,if_neg (by simp only[List.length_cons];omega),Array.getElem?_setIfInBounds]
        rw[if_neg (λcH=>e cH.symm)]
theorem b_.wV{μ:bp}:∀{as:List I} {vs:List Value},b_ μ as vs->(∀a∈as,a.cQ=true)->∀v∈vs,v.oneCell'=true
 |[],_,h,_=>by cases h;intro v aB;cases aB
 |a::as,_,⟨v,vs,e,ab,ad⟩,ag=>by
  subst e
  intro x aa
  cases aa with
  |head=>exact ab.wV (ag a (.head _))
  |tail _ aa=>exact b_.wV ad (λa aS=>ag a (.tail _ aS)) x aa
theorem OG{k:gE}{aN af off n:Nat}(hw:kH k aN af off n=true){cs:List I}{i:eM}{gm gn:Nat}(aq:G4 k cs i aN af gm gn)(fe:n=0\/off+n<=i.size):
  ∀j,i.base+off<=j->j<i.base+off+n->¬(gm<=j/\j<gn):=by
 intro j ab ad ⟨ar,aJ⟩
 cases k with
 |ro=>simp[kH] at hw
 |fz=>simp[kH] at hw
 |own=>
  obtain⟨ae,hs,rfl,rfl⟩:=aq
  simp only[kH,Bool.or_eq_true,Nat.ble_eq] at hw
  omega
 |a1=>
  obtain⟨hs,hf⟩:=aq
  simp only[kH,Bool.or_eq_true,Nat.ble_eq] at hw
  have:=hf (j-i.base) (by omega) (by omega) (by omega)
  omega
theorem wX{P:Program}{μ:bp}{H:J}{w:World}(ai:br μ H w){b off:Nat}{i:eM}(af:μ b=some i){vs:List I}{us:List Value}(aB:b_ μ vs us){aV:J}
  (h:storeCells H b off vs=some aV):
  ∃w',(_root_.Go.storeCells ⟨i.bk,i.base+off,none⟩ us).run P w=.ok () w'/\br μ aV w'/\b7 μ H w μ aV w':=by
 unfold storeCells at h
 split at h
 · rename_i cs el k aN eJ ae
   split at h
   · rename_i hw
     split at h
     · rename_i bN aO
       cases h
       obtain⟨eN,fR,js,k_⟩:=zJ _ _ _ _ aO
       obtain⟨c,gm,gn,ab,ad,ar,aJ⟩:=ai.rel b _ i ae af
       have hlen:=aB.length
       have bw:vs≠[]->off+vs.length<=i.size/\i.base+off+vs.length<=c.size:=λcV=>by
        have:=fR cV
        have pV:=ad (cs.length-1) (cs[cs.length-1]'(by cases vs with|nil=>exact absurd rfl cV|cons a l=>simp at this;omega)) (List.getElem?_eq_getElem _)
        obtain⟨u,hu,_⟩:=pV
        have b8:i.base+(cs.length-1)<c.size:=by
         rcases Nat.lt_or_ge (i.base+(cs.length-1)) c.size with h|h
         · exact h
         · rw[Array.getElem?_eq_none h] at hu;cases hu
        have wY:0<vs.length:=by cases vs with|nil=>exact absurd rfl cV|cons a l=>simp
        cases k with
        |ro=>simp[kH] at hw
        |fz=>simp[kH] at hw
        |own=>obtain⟨cw,c2,_⟩:=aJ;omega
        |a1=>obtain⟨cw,_⟩:=aJ;omega
       by_cases cV:vs=[]
       · subst cV
         have:us=[]:=by cases us with|nil=>rfl|cons a l=>simp at hlen
         subst this
         have fx:bN=cs:=by
          apply List.ext_getElem?
          intro j;rw[k_ j,if_neg (by simp)]
         subst fx
         obtain⟨r1,r2⟩:=ai.update (w':=w) ae (by cases k<;>first|rfl|simp[kH] at hw) af rfl (λ_ _=>rfl) rfl rfl rfl (ai.rel b _ i ae af)
         exact⟨w,by simp[_root_.Go.storeCells],r1,r2⟩
       · obtain⟨s1,s2⟩:=bw cV
         obtain⟨w',c',aA,ay,bx,ef,ga,gM,gq,gX,gC⟩:=G7 P i.bk (i.base+off) us w 0 c el gm gn ab (aB.wV js) (by omega)
          (by have:=OG hw aJ (.inr s1);rw[hlen] at this;simpa using this)
         obtain⟨r1,r2⟩:=ai.update (w':=w') (o':=.cells bN el k aN eJ) ae (by cases k<;>first|rfl|simp[kH] at hw) af ef bx ga gM gq.1 (hdr:=Nat.le_of_eq gq.2.symm)
          ⟨c',gm,gn,ay,λj v aL=>by
           rw[k_ j] at aL
           rw[gC]
           by_cases ak:off<=j/\j<off+vs.length
           · rw[if_pos ak] at aL
             rw[if_pos (by omega)]
             have:i.base+j-(i.base+off+0)=j-off:=by omega
             rw[this];exact aB.get aL
           · rw[if_neg ak] at aL
             rw[if_neg (by omega)]
             exact ad j v aL,by omega,by
           cases k with
           |ro=>trivial
           |fz=>trivial
           |own=>obtain⟨cw,c2,dm⟩:=aJ;exact⟨cw,by omega,dm⟩
           |a1=>obtain⟨cw,c2⟩:=aJ;exact⟨by omega,c2⟩⟩
         exact⟨w',aA,r1,r2⟩
     · cases h
   · cases h
 · cases h
theorem World.heap_alloc_new(w:World)(x:Obj):(w.alloc x).heap[w.heap.size]? =some x:=by unfold World.alloc;simp
theorem zK{P:Program}{μ:bp}{H:J}{w:World}(ai:br μ H w){el b:Nat}{cs:List I}{us:List Value}{aV:J}(aB:b_ μ cs us)(h:newRow H el cs=some (b,aV)):
  (_root_.Go.newRow el ⟨us⟩).run P w=.ok ⟨w.heap.size,0,none⟩ (w.alloc (.cells ⟨us⟩ el))/\b=H.n/\fm μ H.n ⟨w.heap.size,0,us.length⟩ b=some ⟨w.heap.size,0,us.length⟩/\
   br (fm μ H.n ⟨w.heap.size,0,us.length⟩) aV (w.alloc (.cells ⟨us⟩ el))/\b7 μ H w (fm μ H.n ⟨w.heap.size,0,us.length⟩) aV (w.alloc (.cells ⟨us⟩ el)):=by
 unfold newRow at h
 split at h
 · cases h
   have hle:=ai.nU ⟨w.heap.size,0,us.length⟩
   obtain⟨r1,r2⟩:=ai.alloc (.cells cs el .own 0 0) (.cells ⟨us⟩ el) us.length
    ⟨⟨us⟩,0,0,by exact World.heap_alloc_new _ _,λj v aL=>by
      obtain⟨u,hu,ak⟩:=aB.get aL
      exact⟨u,by simpa using hu,ak.mono hle⟩,by simp,rfl,aB.length.symm,rfl,rfl⟩
   exact⟨by simp[_root_.Go.newRow],rfl,gp _ _ _,r1,r2⟩
 · cases h
section types
variable {P:Program} {w:World} {t:TypeId}
theorem run_typeInfo{i:TypeInfo}(h:P.info? t=some i):(typeInfo t).run P w=.ok i w:=by simp[typeInfo,h]
theorem bU{d:TypeDesc}(h:P.underlying t=some d):(underlying t).run P w=.ok d w:=by simp[underlying,h]
theorem run_sizeOf{n:Nat}(h:dh P t=some n):(_root_.Go.sizeOf t).run P w=Result.ok n w:=by
 unfold dh at h
 split at h
 · rename_i i af;cases h;simp[_root_.Go.sizeOf,run_typeInfo af]
 · cases h
theorem uA{b:Bool}(h:pK P t=some b):(isAgg t).run P w=.ok b w:=by
 unfold pK at h
 cases hu:P.underlying t with
 |none=>rw[hu] at h;cases h
 |some d=>
  rw[hu] at h
  simp only[isAgg,Sem.run_bind,bU hu,Result.andThen_ok]
  cases d<;>cases h<;>rfl
theorem lF{z:I}(h:d_ P t=some z):∃v,(zeroValue t).run P w=.ok v w/\z=nO v/\z≠ .bad:=by
 unfold d_ at h
 split at h
 · rename_i i af
   split at h
   · rename_i v aB
     split at h
     · cases h
     · rename_i a cV
       cases h
       exact⟨v,by simp[zeroValue,run_typeInfo af,aB],rfl,cV⟩
   · cases h
 · cases h
end types
end aM
namespace aM
open Go
def eO(P:Program)(μ:bp)(H:J)(w:World)(s:Sem Value)(v:I)(aV:J):Prop:=
 ∃aX w' v',s.run P w=.ok v' w'/\bl aX v v'/\br aX aV w'/\b7 μ H w aX aV w'
theorem eO.same{P:Program}{μ:bp}{H:J}{w:World}{s:Sem Value}{v:I}{v':Value}(ai:br μ H w)(hs:s.run P w=.ok v' w)(aB:bl μ v v'):eO P μ H w s v H:=
 ⟨μ,w,v',hs,aB,ai,b7.refl _ _ _⟩
section
variable {P:Program} {μ:bp} {H:J} {w:World}
theorem OH(ai:br μ H w){e:TypeId}{z:I}(aZ:d_ P e=some z){b:Nat}{aV:J}(ak:newRow H e z.cells=some (b,aV)):
  eO P μ H w (Instr.alloc e true (.tuple #[])) (.ptr b 0) aV:=by
 obtain⟨v,aB,rfl,ae⟩:=lF (w:=w) aZ
 have ag:=(jY μ v).cells ae
 obtain⟨ab,rfl,ad,ar,aJ⟩:=zK (P:=P) ai ag ak
 refine⟨_,_,.pointer (some ⟨w.heap.size,0,none⟩),?_,⟨_,ad,by simp⟩,ar,aJ⟩
 simp[Instr.alloc,aB,newVar,ab]
theorem OI(ai:br μ H w){e:TypeId}{x:I}{v:Value}(aB:bl μ x v){b:Nat}{aV:J}(ak:newRow H e x.cells=some (b,aV)):
  eO P μ H w (Instr.box e v) (.ptr b 0) aV:=by
 have ae:x≠ .bad:=by intro h;rw[h] at ak;simp[newRow,I.cells,I.cQ] at ak
 obtain⟨ab,rfl,ad,ar,aJ⟩:=zK (P:=P) ai (aB.cells ae) ak
 refine⟨_,_,.pointer (some ⟨w.heap.size,0,none⟩),?_,⟨_,ad,by simp⟩,ar,aJ⟩
 simp[Instr.box,newVar,ab]
theorem OJ(ai:br μ H w){t:TypeId}{b off:Nat}{v:Value}(aB:bl μ (.ptr b off) v):
  (∀n cs,pK P t=some true->dh P t=some n->loadCells H b off n=some cs->eO P μ H w (Instr.loadAt t v) (.agg cs) H)/\
  (∀x,pK P t=some false->au H b off=some x->eO P μ H w (Instr.loadAt t v) x H):=by
 obtain⟨i,af,rfl⟩:=aB
 constructor
 · intro n cs aS aK aw
   obtain⟨us,ab,ad⟩:=q0 (P:=P) ai af aw
   exact .same ai (v':=.agg ⟨us⟩) (by simp[Instr.loadAt,Instr.sureAddr,loadVar,uA aS,run_sizeOf aK,ab]) ⟨us,rfl,ad⟩
 · intro x aS aw
   obtain⟨u,ab,ad⟩:=Cz (P:=P) ai af aw
   exact .same ai (v':=u) (by simp only[Instr.loadAt,Instr.sureAddr,loadVar,Sem.run_bind,Sem.run_pure,Result.andThen_ok,uA aS,Bool.false_eq_true,if_false,ab]) ad
theorem OK(ai:br μ H w){t:TypeId}{b off n:Nat}{v u:Value}{x:I}(aB:bl μ (.ptr b off) v)(aa:bl μ x u)(ae:x≠ .bad)(aK:dh P t=some n)(aw:x.cells.length=n)
  {aV:J}(hs:storeCells H b off x.cells=some aV):
  ∃w',(Instr.storeAt t v u).run P w=.ok () w'/\br μ aV w'/\b7 μ H w μ aV w':=by
 obtain⟨i,af,rfl⟩:=aB
 have ag:=aa.cells ae
 obtain⟨w',ab,ad,ar⟩:=wX (P:=P) ai af ag hs
 refine⟨w',?_,ad,ar⟩
 have bw:u.cells.size=n:=by have:=ag.length;rw[aw] at this;simpa using this.symm
 simp[Instr.storeAt,Instr.sureAddr,storeVar,run_sizeOf aK,bw,ab]
theorem G8(off:Nat):∀(l:List Value) (s:Nat) (cs:Array Value),off+s+l.length<=cs.size->
  ((l.zipIdx s).foldl (λcs (x:Value×Nat)=>cs.setIfInBounds (off+x.2) x.1) cs).size=cs.size/\
  ∀j:Nat,((l.zipIdx s).foldl (λcs (x:Value×Nat)=>cs.setIfInBounds (off+x.2) x.1) cs)[j]? =if off+s<=j/\j<off+s+l.length then l[j-(off+s)]? else cs[j]?
 |[],s,cs,_=>by
  refine⟨rfl,λj=>by rw[if_neg (by simp)];rfl⟩
 |a::l,s,cs,h=>by
  simp only[List.length_cons] at h
  obtain⟨ab,ad⟩:=G8 off l (s+1) (cs.setIfInBounds (off+s) a) (by simp;omega)
  simp only[List.zipIdx_cons,List.foldl_cons]
  refine⟨by rw[ab];simp,λj=>?_⟩
  rw[ad j]
  by_cases e:j=off+s
  · subst e
    rw[if_neg (by omega),if_pos (by simp),Array.getElem?_setIfInBounds]
    simp;omega
  · by_cases ay:off+(s+1)<=j/\j<off+(s+1)+l.length
    · rw[if_pos ay,if_pos (by simp only[List.length_cons];omega)]
      have:j-(off+s)=(j-(off+(s+1)))+1:=by omega
      rw[this];simp
    · rw[if_neg ay,if_neg (by simp only[List.length_cons];omega),Array.getElem?_setIfInBounds,if_neg (λcH=>e cH.symm)]
theorem wZ(place:Nat->Option (Nat×Nat)){sv:Type}(g:sv->I)(cr:sv->Value)(al:∀x,bl μ (g x) (cr x)):∀(ps:List (Nat×sv)) (cs r:List I) (c:Array Value),b_ μ cs c.toList->
  jE place cs (ps.map λp=>(p.1,g p.2))=some r->∃c':List Value,Instr.fill place c (ps.map λp=>(p.1,cr p.2))=some ⟨c'⟩/\b_ μ r c'
 |[],cs,r,c,ag,h=>by
  simp[jE] at h;subst h
  exact⟨c.toList,by simp[Instr.fill],ag⟩
 |(k,x)::ps,cs,r,c,ag,h=>by
  simp only[List.map_cons] at h⊢
  have aB:=al x
  generalize g x=v at h aB
  generalize cr x=u at aB⊢
  have ae:v≠ .bad:=by intro e;subst e;simp[jE] at h
  have pW:∃off size bN,place k=some (off,size)/\v.cells.length=size/\off+size<=cs.length/\fN off v.cells cs=some bN/\jE place bN (ps.map λp=>(p.1,g p.2))=some r:=by
   cases v<;>first
    |exact absurd rfl ae
    |(simp only[jE] at h
      split at h
      · cases h
      · rename_i off size hr
        split at h
        · rename_i bw
          simp only[Bool.and_eq_true,Nat.ble_eq] at bw
          split at h
          · rename_i bN w0
            exact⟨off,size,bN,hr,Nat.eq_of_beq_eq_true bw.1,bw.2,w0,h⟩
          · cases h
        · cases h)
  obtain⟨off,size,bN,hr,bw,hbound,w0,m6⟩:=pW
  obtain⟨eN,fR,js,k_⟩:=zJ _ _ _ _ w0
  have nV:=aB.cells ae
  have aw:=nV.length
  have q1:=ag.length
  have ar:c.toList.length=c.size:=by simp
  have OL:u.cells.size=size:=by rw[<-bw,aw];simp
  obtain⟨f1,f2⟩:=G8 off u.cells.toList 0 c (by simp;omega)
  have OM:(u.cells.zipIdx.foldl (λcs (x:Value×Nat)=>cs.setIfInBounds (off+x.2) x.1) c)=((u.cells.toList.zipIdx 0).foldl (λcs (x:Value×Nat)=>cs.setIfInBounds (off+x.2) x.1) c):=by
   rw[<-Array.foldl_toList,Array.toList_zipIdx]
  have key:b_ μ bN (u.cells.zipIdx.foldl (λcs (x:Value×Nat)=>cs.setIfInBounds (off+x.2) x.1) c).toList:=by
   rw[OM]
   refine b_.wU (by rw[eN,q1];simpa using f1.symm) λj a aS=>?_
   rw[k_ j] at aS
   rw[Array.getElem?_toList,f2 j]
   have G9:u.cells.toList.length=v.cells.length:=aw.symm
   by_cases ak:off<=j/\j<off+v.cells.length
   · rw[if_pos ak] at aS;rw[if_pos (by omega)]
     exact nV.get (by simpa using aS)
   · rw[if_neg ak] at aS;rw[if_neg (by omega)]
     simpa using ag.get aS
  obtain⟨c',aj,ax⟩:=wZ place g cr al ps bN r _ key m6
  refine⟨c',?_,ax⟩
  simp only[Instr.fill,hr,OL]
  rw[if_neg (by simp;omega)]
  exact aj
theorem ON{t:TypeId}{n:Nat}(h:dh P t=some n):P.cellsOf t=n:=by
 unfold dh at h
 split at h
 · rename_i i af;cases h;simp[Program.cellsOf,af]
 · cases h
theorem run_places(w:World):∀l:List Field,(l.all λf=>(dh P f.type).isSome)=true->
  (l.mapM (λf=>do pure (f.offset,<-_root_.Go.sizeOf f.type):Field->Sem (Nat×Nat))).run P w=.ok (l.map λf=>(f.offset,P.cellsOf f.type)) w
 |[],_=>rfl
 |f::l,h=>by
  simp only[List.all_cons,Bool.and_eq_true] at h
  obtain⟨n,aK⟩:=Option.isSome_iff_exists.1 h.1
  simp only[List.mapM_cons,Sem.run_bind,run_sizeOf aK,Result.andThen_ok,Sem.run_pure,run_places w l h.2,List.map_cons,ON aK]
theorem OO(ai:br μ H w)(g:Operand->I)(cr:Operand->Value)(al:∀x,bl μ (g x) (cr x)){t:TypeId}{z:I}(aZ:d_ P t=some z){bR:Array Field}(hu:P.underlying t=some (.struct bR))
  (eg:(bR.toList.all λf=>(dh P f.type).isSome)=true)(parts:Array (Nat×Operand)){cs:List I}
  (hf:jE (λi=>(bR[i]?).map λf=>(f.offset,P.cellsOf f.type)) z.cells (parts.toList.map λp=>(p.1,g p.2))=some cs):
  eO P μ H w (Instr.build t (parts.map λ(i,x)=>(i,cr x))) (.agg cs) H:=by
 obtain⟨v,aB,rfl,ae⟩:=lF (w:=w) aZ
 have ag:=(jY μ v).cells ae
 obtain⟨c',ab,ad⟩:=wZ _ g cr al parts.toList _ cs v.cells ag hf
 have aO:=run_places (P:=P) w bR.toList eg
 refine .same ai (v':=.agg ⟨c'⟩) ?_ ⟨c',rfl,ad⟩
 have hm:(bR.mapM (λf=>do pure (f.offset,<-_root_.Go.sizeOf f.type):Field->Sem (Nat×Nat))).run P w=.ok (bR.map λf=>(f.offset,P.cellsOf f.type)) w:=by
  obtain⟨l⟩:=bR
  have e:(l.toArray.mapM (λf=>do pure (f.offset,<-_root_.Go.sizeOf f.type):Field->Sem (Nat×Nat)))=List.toArray<$>l.mapM (λf=>do pure (f.offset,<-_root_.Go.sizeOf f.type)):=List.mapM_toArray
  refine(congrArg (λs:Sem (Array (Nat×Nat))=>s.run P w) e).trans ?_
  simp only[Sem.run_map]
  rw[show(Sem.run P (List.mapM (λf=>do pure (f.offset,<-_root_.Go.sizeOf f.type):Field->Sem (Nat×Nat)) l) w)=_ from aO];simp
 have OP:(λi:Nat=>(bR.map λf=>(f.offset,P.cellsOf f.type))[i]?)=λi=>(bR[i]?).map λf=>(f.offset,P.cellsOf f.type):=by
  funext i;simp
 simp only[Instr.build,Sem.run_bind,aB,Result.andThen_ok,bU hu,hm,OP,Array.toList_map,ab]
 rfl
theorem OQ(ai:br μ H w)(g:Operand->I)(cr:Operand->Value)(al:∀x,bl μ (g x) (cr x)){t e:TypeId}{n sz:Nat}{z:I}(aZ:d_ P t=some z)(hu:P.underlying t=some (.array n e))
  (hs:dh P e=some sz)(parts:Array (Nat×Operand)){cs:List I}
  (hf:jE (λi=>some (i*sz,sz)) z.cells (parts.toList.map λp=>(p.1,g p.2))=some cs):
  eO P μ H w (Instr.build t (parts.map λ(i,x)=>(i,cr x))) (.agg cs) H:=by
 obtain⟨v,aB,rfl,ae⟩:=lF (w:=w) aZ
 have ag:=(jY μ v).cells ae
 obtain⟨c',ab,ad⟩:=wZ _ g cr al parts.toList _ cs v.cells ag hf
 refine .same ai (v':=.agg ⟨c'⟩) ?_ ⟨c',rfl,ad⟩
 simp only[Instr.build,Sem.run_bind,aB,Result.andThen_ok,bU hu,run_sizeOf hs,Array.toList_map,ab]
 rfl
theorem G_{α:Type}(n:Nat)(l:List α):(fc n l).length=n*l.length:=by
 induction n with
 |zero=>simp[fc]
 |succ n a6=>simp[fc,a6,Nat.succ_mul];omega
theorem Ha{α:Type}:∀(n:Nat) (l:List α) (j:Nat),j<n*l.length->(fc n l)[j]? =l[j %l.length]?
 |0,l,j,h=>by simp at h
 |n+1,l,j,h=>by
  simp only[fc]
  by_cases e:j<l.length
  · rw[List.getElem?_append_left e,Nat.mod_eq_of_lt e]
  · rw[List.getElem?_append_right (by omega),Ha n l (j-l.length) (by rw[Nat.succ_mul] at h;omega)]
    have:(j-l.length) %l.length=j %l.length:=by
     have ai:j=(j-l.length)+l.length:=by omega
     conv=>rhs;rw[ai,Nat.add_mod_right]
    rw[this]
theorem w1{m7:List I}{zero:Array Value}(aZ:b_ μ m7 zero.toList){sz:Nat}(hs:m7.length=sz)(n:Nat):
  b_ μ (fc n m7) ((Array.range (n*sz)).map (λi=>zero[i %zero.size]!)).toList:=by
 have aw:=aZ.length
 have ar:zero.toList.length=zero.size:=by simp
 refine b_.wU (by rw[G_,hs];simp) λj a aS=>?_
 have aL:j<n*m7.length:=by
  rcases Nat.lt_or_ge j (n*m7.length) with h|h
  · exact h
  · rw[List.getElem?_eq_none (by rw[G_];exact h)] at aS;cases aS
 rw[Ha n m7 j aL] at aS
 obtain⟨u,hu,ak⟩:=aZ.get aS
 refine⟨u,?_,ak⟩
 have wY:0<m7.length:=by
  rcases Nat.eq_zero_or_pos m7.length with h|h
  · rw[h] at aL;simp at aL
  · exact h
 have b8:j %zero.size<zero.size:=Nat.mod_lt _ (by omega)
 have aA:m7.length=zero.size:=by omega
 rw[aA] at hu
 rw[Array.getElem?_toList] at hu
 rw[Array.getElem?_toList,Array.getElem?_map,Array.getElem?_range]
 rw[if_pos (by rw[<-hs];exact aL)]
 simp only[Option.map_some]
 rw[Array.getElem?_eq_getElem b8] at hu
 simp only[Option.some.injEq] at hu
 rw[getElem!_pos zero _ b8,hu]
theorem OR(ai:br μ H w)(g:Operand->I)(cr:Operand->Value)(al:∀x,bl μ (g x) (cr x)){t e:TypeId}{len sz:Nat}{z:I}(hu:P.underlying t=some (.slice e))(hs:dh P e=some sz)
  (aZ:d_ P e=some z)(hle:len*sz<=16777216)(m8:z.cells.length=sz)(parts:Array (Nat×Operand)){cs:List I}
  (hf:jE (λi=>some (i*sz,sz)) (if len*sz=0 then[] else fc len z.cells) (parts.toList.map λp=>(p.1,g p.2))=some cs){b:Nat}{aV:J}(ak:newRow H e cs=some (b,aV)):
  eO P μ H w (Instr.buildSlice t len (parts.map λ(i,x)=>(i,cr x))) (.slice b 0 len (.exact len)) aV:=by
 obtain⟨v,aB,rfl,ae⟩:=lF (w:=w) aZ
 have ag:=(jY μ v).cells ae
 have w2:¬(len*sz>2^24):=by omega
 have key:∀zero:Array Value,b_ μ (if len*sz=0 then[] else fc len (nO v).cells) ((Array.range (len*sz)).map (λi=>zero[i %zero.size]!)).toList->
   (∀r:Result Value,r=(match Instr.fill (λi=>some (i*sz,sz)) ((Array.range (len*sz)).map (λi=>zero[i %zero.size]!)) (parts.toList.map λp=>(p.1,cr p.2)) with
    |some cells=>do pure (.slice (some (<-_root_.Go.newRow e cells)) len len)
    |none=>stuck "buildSlice: a part of the wrong size" :Sem Value).run P w->(Instr.buildSlice t len (parts.map λ(i,x)=>(i,cr x))).run P w=r)->
   eO P μ H w (Instr.buildSlice t len (parts.map λ(i,x)=>(i,cr x))) (.slice b 0 len (.exact len)) aV:=by
  intro zero pX eP
  obtain⟨c',ab,ad⟩:=wZ _ g cr al parts.toList _ cs _ pX hf
  obtain⟨aD,rfl,bm,bG,bV⟩:=zK (P:=P) ai ad ak
  refine⟨_,_,.slice (some ⟨w.heap.size,0,none⟩) len len,?_,⟨_,bm,by simp[Ct]⟩,bG,bV⟩
  refine eP _ ?_
  rw[ab]
  simp[aD]
 by_cases h0:len*sz=0
 · refine key #[] (by rw[if_pos h0,h0];simp[b_]) λr ak=>?_
   rw[ak]
   simp only[Instr.buildSlice,Sem.run_bind,bU hu,Result.andThen_ok,run_sizeOf hs,if_neg w2,if_pos h0,Sem.run_pure,Array.toList_map]
   generalize Instr.fill _ _ _=F
   cases F<;>rfl
 · refine key v.cells (by rw[if_neg h0];exact w1 ag m8 len) λr ak=>?_
   rw[ak]
   simp only[Instr.buildSlice,Sem.run_bind,bU hu,Result.andThen_ok,run_sizeOf hs,if_neg w2,if_neg h0,Sem.run_pure,Array.toList_map,aB]
   generalize Instr.fill _ _ _=F
   cases F<;>rfl
end
end aM
namespace aM
open Go
theorem q2(n:Nat)(h:n<9223372036854775808):IntKind.wrap .i64 (n:Int)=(n:Int):=by
 have e:((n:Int) %18446744073709551616)=n:=by omega
 have ay:(2:Int)^64=18446744073709551616:=by rfl
 have bx:(2:Int)^63=9223372036854775808:=by rfl
 simp only[IntKind.wrap,IntKind.bits,IntKind.signed,ay,bx,e,Bool.true_and,decide_eq_true_eq,Nat.add_one_sub_one]
 rw[if_neg (by show¬((2:Int)^63<=n);rw[bx];omega)]
section
variable {P:Program} {μ:bp} {H:J} {w:World}
theorem OS(ai:br μ H w){t e:TypeId}{l c:Nat}{i:TypeInfo}{z:I}{kl kc:IntKind}(hu:P.underlying t=some (.slice e))(af:P.info? e=some i)(aZ:d_ P e=some z)(q1:l<=c)
  (uB:c*(i.bytes+1)<=1099511627776)(m8:z.cells.length=i.size){b:Nat}{aV:J}(ak:newRow H e (if c*i.size=0 then[] else fc c z.cells)=some (b,aV)):
  eO P μ H w (Instr.makeSlice t (.int kl l) (.int kc c)) (.slice b 0 l (.exact c)) aV:=by
 obtain⟨v,aB,rfl,ae⟩:=lF (w:=w) aZ
 have ag:=(jY μ v).cells ae
 have q3:c<=1099511627776:=Nat.le_trans (Nat.le_mul_of_pos_right c (by omega)) uB
 have lG:i.bytes*c<=1099511627776:=by
  have:c*i.bytes<=c*(i.bytes+1):=Nat.mul_le_mul_left c (by omega)
  rw[Nat.mul_comm];omega
 have w3:∀n:Nat,n<=1099511627776->IntKind.wrap .i64 (n:Int)=(n:Int):=λn aK=>q2 n (by omega)
 have kK:=w3 l (by omega)
 have w4:=w3 c q3
 have sy:¬((c:Int)<0||(i.bytes:Int)*(c:Int)>2^48||(l:Int)<0||(l:Int)>(c:Int))=true:=by
  have ab:((i.bytes:Int)*(c:Int))<=1099511627776:=by
   have h0:((i.bytes*c:Nat):Int)<=1099511627776:=by omega
   rw[Int.natCast_mul] at h0;exact h0
  have ad:(2:Int)^48=281474976710656:=by rfl
  generalize (i.bytes:Int)*(c:Int)=q at ab⊢
  rw[ad]
  simp only[Bool.or_eq_true,decide_eq_true_eq]
  omega
 have key:∀zero:Array Value,b_ μ (if c*i.size=0 then[] else fc c (nO v).cells) ((Array.range (c*i.size)).map (λj=>zero[j %zero.size]!)).toList->
   (Instr.makeSlice t (.int kl l) (.int kc c)).run P w=(do let a<-_root_.Go.newRow e ((Array.range (c*i.size)).map (λj=>zero[j %zero.size]!));pure (.slice (some a) l c):Sem Value).run P w->
   eO P μ H w (Instr.makeSlice t (.int kl l) (.int kc c)) (.slice b 0 l (.exact c)) aV:=by
  intro zero pX eP
  obtain⟨aD,rfl,bm,bG,bV⟩:=zK (P:=P) ai pX ak
  refine⟨_,_,.slice (some ⟨w.heap.size,0,none⟩) l c,?_,⟨_,bm,by simp[Ct]⟩,bG,bV⟩
  rw[eP]
  simp only[Sem.run_bind,Sem.run_pure]
  have:(⟨((Array.range (c*i.size)).map (λj=>zero[j %zero.size]!)).toList⟩:Array Value)=((Array.range (c*i.size)).map (λj=>zero[j %zero.size]!)):=rfl
  rw[this] at aD
  rw[aD];rfl
 have bw:(_root_.Go.sizeOf e).run P w=.ok i.size w:=by simp[_root_.Go.sizeOf,run_typeInfo af]
 by_cases h0:c*i.size=0
 · refine key #[] (by rw[if_pos h0,h0];simp[b_]) ?_
   simp only[Instr.makeSlice,Sem.run_bind,bU hu,Result.andThen_ok,asInt,asIntOf,Sem.run_pure,run_typeInfo af,kK,w4]
   rw[if_neg sy]
   simp[bw,h0]
 · refine key v.cells (by rw[if_neg h0];exact w1 ag m8 c) ?_
   simp only[Instr.makeSlice,Sem.run_bind,bU hu,Result.andThen_ok,asInt,asIntOf,Sem.run_pure,run_typeInfo af,kK,w4]
   rw[if_neg sy]
   simp[bw,h0,aB]
theorem OT{x:I}{v:Value}(aB:bl μ x v)(aa:(∃b o,x=.ptr b o)\/(∃b o n c,x=.slice b o n c)\/(∃f a b,x=.fn f a b)\/∃t y,x=.iface t y):
  ∀(o:Oper) (op:Operand) (cr:Operand->Value),cr op=v->o.op=.nilCheck op->(execOp cr o).run P w=.ok (.value v) w:=by
 intro o op cr OU a2
 simp only[execOp,a2,OU]
 rcases aa with⟨b,o',rfl⟩|⟨b,o',n,c,rfl⟩|⟨f,a,b,rfl⟩|⟨t,y,rfl⟩
 · obtain⟨i,_,rfl⟩:=aB;rfl
 · obtain⟨i,_,ag⟩:=aB
   cases c with
   |exact c=>cases ag;rfl
   |a1 gz=>obtain⟨c,rfl,_⟩:=ag;rfl
   |dead=>obtain⟨_,a,c,rfl⟩:=ag;rfl
 · obtain⟨bR,cs,rfl,_,_⟩:=aB;rfl
 · obtain⟨OV,rfl,_⟩:=aB;rfl
theorem OW(op:BinOp)(t:TypeId)(k:IntKind)(x y:Int)(fo:op≠ .shl/\op≠ .shr):binOp op t (.int k x) (.int k y)=match op with
  |.add|.sub|.mul=>Op.intArith op k x y
  |.quo|.rem=>Op.intDiv op k x y
  |.and|.or|.xor|.andNot=>Op.intBits op k x y
  |_=>Op.intCmp op x y:=by
 cases op<;>first
  |(exact absurd rfl fo.1)
  |(exact absurd rfl fo.2)
  |simp[binOp]
theorem OX{op:BinOp}{k:IntKind}{x y:Int}{v:I}(h:arith op k x y=some v)(fo:op≠ .shl/\op≠ .shr)(t:TypeId):
  ∃u,(binOp op t (.int k x) (.int k y)).run P w=.ok u w/\bl μ v u:=by
 rw[OW op t k x y fo]
 cases op<;>simp only[arith] at h
 case shl=>cases h
 case shr=>cases h
 case quo=>
  split at h
  · cases h
  · rename_i aW;cases h;exact⟨_,by simp only[Op.intDiv,if_neg aW];rfl,rfl⟩
 case rem=>
  split at h
  · cases h
  · rename_i aW;cases h;exact⟨_,by simp only[Op.intDiv,if_neg aW];rfl,rfl⟩
 all_goals (cases h;exact⟨_,rfl,rfl⟩)
theorem Hb{op:BinOp}{k ea:IntKind}{x y:Int}{v:I}(h:qN op k x y=some v)(t:TypeId):
  ∃u,(binOp op t (.int k x) (.int ea y)).run P w=.ok u w/\bl μ v u:=by
 unfold qN at h
 split at h
 · cases h
 · rename_i aW
   cases op<;>simp only[] at h<;>first
    |(cases h;done)
    |(cases h;exact⟨_,by simp[binOp,Op.shift,aW],rfl⟩)
theorem Hc(b:ByteArray):∀(n i:Nat) (r:List UInt8),b.size-i=n->ByteArray.toList.loop b i r=r.reverse++b.data.toList.drop i
 |0,i,r,h=>by
  rw[ByteArray.toList.loop]
  have hs:b.data.toList.length=b.size:=Array.length_toList
  rw[if_neg (by omega),List.drop_eq_nil_of_le (by omega)];simp
 |n+1,i,r,h=>by
  rw[ByteArray.toList.loop]
  have hs:b.data.toList.length=b.size:=Array.length_toList
  rw[if_pos (by omega),Hc b n (i+1) _ (by omega)]
  rw[List.drop_eq_getElem_cons (i:=i) (by omega)]
  have:b.get! i=b.data.toList[i]'(by omega):=by
   have ad:i<b.data.size:=by have:=Array.length_toList (xs:=b.data);omega
   show b.data[i]! =_
   rw[getElem!_pos b.data i ad];simp
  simp[this]
theorem q4(s:ByteArray):s.toList=s.data.toList:=by
 unfold ByteArray.toList
 rw[Hc s _ 0 [] rfl];simp
theorem nW:∀a b:List UInt8,dF a b=(a==b)
 |[],[]=>rfl
 |[],_::_=>rfl
 |_::_,[]=>rfl
 |a::x,b::y=>by
  have a6:=nW x y
  simp only[dF,List.cons_beq_cons]
  cases e:Nat.beq a.toNat b.toNat with
  |true=>
   have:a=b:=UInt8.toNat_inj.1 (Nat.eq_of_beq_eq_true e)
   subst this;simp[a6]
  |false=>
   have:(a==b)=false:=by
    rw[beq_eq_false_iff_ne];intro h;subst h;simp at e
   simp[this]
theorem CA:∀a b:List UInt8,dB a b=Op.bytesLess a b
 |[],[]=>rfl
 |[],_::_=>rfl
 |_::_,[]=>rfl
 |a::x,b::y=>by
  have a6:=CA x y
  simp only[dB,Op.bytesLess]
  cases e:Nat.beq a.toNat b.toNat with
  |true=>
   have:a=b:=UInt8.toNat_inj.1 (Nat.eq_of_beq_eq_true e)
   subst this;simp[a6]
  |false=>
   have ab:(a==b)=false:=by
    rw[beq_eq_false_iff_ne];intro h;subst h;simp at e
   have ad:decide (a<b)=Nat.blt a.toNat b.toNat:=by
    rw[Bool.eq_iff_iff];simp[UInt8.lt_iff_toNat_lt]
   simp[ab,ad]
theorem Hd:∀a b:List UInt8,(Op.bytesLess a b||(a==b))=!Op.bytesLess b a
 |[],[]=>rfl
 |[],_::_=>rfl
 |_::_,[]=>rfl
 |a::x,b::y=>by
  have a6:=Hd x y
  simp only[Op.bytesLess,List.cons_beq_cons]
  by_cases h:a=b
  · subst h
    have:¬(a<a):=UInt8.lt_irrefl a
    simpa[this] using a6
  · have cV:(a==b)=false:=beq_eq_false_iff_ne.2 h
    have OY:(b==a)=false:=beq_eq_false_iff_ne.2 (λe=>h e.symm)
    simp only[cV,OY,Bool.false_and,Bool.or_false]
    rw[Bool.eq_iff_iff]
    simp only[decide_eq_true_eq,Bool.not_eq_true',decide_eq_false_iff_not,UInt8.lt_iff_toNat_lt]
    have:a.toNat≠b.toNat:=λe=>h (UInt8.toNat_inj.1 e)
    omega
theorem OZ{op:BinOp}{a b:ByteArray}{v:I}(h:gA op a.data.toList b.data.toList=some v)(t:TypeId):∃u,(binOp op t (.string a) (.string b)).run P w=.ok u w/\bl μ v u:=by
 have aS:=q4 a
 have ae:=q4 b
 have ab:=nW a.data.toList b.data.toList
 have ad:=CA a.data.toList b.data.toList
 have ar:=CA b.data.toList a.data.toList
 have a_:=Hd a.data.toList b.data.toList
 have q5:a.data.toList.length=a.size:=Array.length_toList
 have O0:b.data.toList.length=b.size:=Array.length_toList
 cases op<;>simp only[gA] at h
 case add=>
  split at h
  · cases h
  · rename_i aw
    cases h
    refine⟨.string (a++b),?_,⟨a++b,rfl,by simp[ByteArray.data_append]⟩⟩
    rw[q5,O0] at aw
    simp only[binOp,Op.stringOp]
    rw[if_neg aw];rfl
 case eql=>cases h;exact⟨_,rfl,congrArg Value.bool (by rw[aS,ae,ab])⟩
 case neq=>cases h;exact⟨_,rfl,congrArg Value.bool (by rw[aS,ae,ab])⟩
 case lss=>cases h;exact⟨_,rfl,congrArg Value.bool (by rw[aS,ae,ad])⟩
 case leq=>cases h;exact⟨_,rfl,congrArg Value.bool (by rw[aS,ae,ar];exact a_)⟩
 case gtr=>cases h;exact⟨_,rfl,congrArg Value.bool (by rw[aS,ae,ar,a_,Bool.not_not])⟩
 case geq=>cases h;exact⟨_,rfl,congrArg Value.bool (by rw[aS,ae,ad])⟩
 all_goals cases h
def m9(μ:bp):Option I->Option Value->Prop
 |none,none=>True
 |some a,some v=>bl μ a v
 |_,_=>False
theorem m9.map(g:Operand->I)(cr:Operand->Value)(al:∀x,bl μ (g x) (cr x))(o:Option Operand):m9 μ (o.map g) (o.map cr):=by
 cases o with
 |none=>trivial
 |some x=>exact al x
theorem He{a:I}{n:Nat}(h:eC a=some n){v:Value}(aB:bl μ a v):∃k,v=.int k (n:Int):=by
 unfold eC at h
 split at h
 · rename_i k m;cases h;exact⟨k,aB⟩
 · cases h
theorem CB{n y:Nat}{k:IntKind}(h:n<=y)(c:BoundsCode):(Instr.sliceBound (.int k (n:Int)) y c).run P w=.ok n w:=by
 simp only[Instr.sliceBound,asIntOf,Sem.run_bind,Sem.run_pure,Result.andThen_ok]
 rw[if_pos ⟨by omega,by omega⟩]
 simp
theorem Hf{d n:Nat}{o:Option I}{o':Option Value}(h:g8 d o=some n)(ak:m9 μ o o'):(o'=none/\n=d/\o=none)\/∃k a,o=some a/\o'=some (.int k (n:Int)):=by
 cases o with
 |none=>cases o' with
  |none=>simp[g8] at h;exact .inl ⟨rfl,h.symm,rfl⟩
  |some _=>exact ak.elim
 |some a=>cases o' with
  |none=>exact ak.elim
  |some v=>obtain⟨k,e⟩:=He (μ:=μ) h ak;exact .inr ⟨k,a,rfl,by rw[e]⟩
theorem nX{len cap l h m:Nat}{aN af mx:Option I}{q6 eJ mx':Option Value}(hZ:m9 μ aN q6)(j0:m9 μ af eJ)(iy:m9 μ mx mx')
  (ae:bounds len cap aN af mx=some (l,h,m))(b:Bool):(Instr.sliceBounds b len cap q6 eJ mx').run P w=.ok (l,h,m) w/\l<=h/\h<=m/\m<=cap/\(mx=none->m=cap):=by
 unfold bounds at ae
 cases em:g8 cap mx with
 |none=>rw[em] at ae;cases ae
 |some a3=>
  rw[em] at ae
  simp only at ae
  cases hm:Nat.ble a3 cap with
  |false=>rw[hm] at ae;cases ae
  |true=>
   rw[hm] at ae
   simp only at ae
   have pY:=Nat.le_of_ble_eq_true hm
   split at ae
   · cases ae
   · rename_i ai zL
     cases CC:Nat.ble ai a3 with
     |false=>rw[CC] at ae;cases ae
     |true=>
      rw[CC] at ae
      simp only at ae
      have Hg:=Nat.le_of_ble_eq_true CC
      cases el:g8 0 aN with
      |none=>rw[el] at ae;cases ae
      |some bB=>
       rw[el] at ae
       simp only at ae
       cases aw:Nat.ble bB ai with
       |false=>rw[aw] at ae;cases ae
       |true=>
        rw[aw] at ae
        simp only[Option.some.injEq,Prod.mk.injEq] at ae
        obtain⟨rfl,rfl,rfl⟩:=ae
        have pZ:=Nat.le_of_ble_eq_true aw
        have O1:(eJ=none/\mx'=none/\ai=len)\/∃k,eJ=some (.int k (ai:Int)):=by
         cases af with
         |none=>cases eJ with
          |some _=>exact j0.elim
          |none=>cases mx with
           |some _=>simp at zL
           |none=>cases mx' with
            |some _=>exact iy.elim
            |none=>simp at zL;exact .inl ⟨rfl,rfl,zL.symm⟩
         |some a=>cases eJ with
          |none=>exact j0.elim
          |some v=>
           have hb:eC a=some ai:=by cases mx<;>simpa using zL
           obtain⟨k,e⟩:=He (μ:=μ) hb j0
           exact .inr ⟨k,by rw[e]⟩
        refine⟨?_,pZ,Hg,pY,λe=>by rw[e] at em;simp[g8] at em;exact em.symm⟩
        rcases Hf em iy with⟨aA,ay,_⟩|⟨bE,_,_,aA⟩<;>rcases O1 with⟨bx,ef,ga⟩|⟨b0,bx⟩<;>rcases Hf el hZ with⟨gM,gq,_⟩|⟨ec,_,_,gM⟩<;>
         first
         |(exfalso;simp[aA] at ef;done)
         |(subst_vars;simp[Instr.sliceBounds,CB pY,CB Hg,CB pZ])
end
end aM
namespace aM
open Go
section
variable {P:Program} {μ:bp} {H:J} {w:World}
theorem O2(t:ByteArray)(l h:Nat)(ai:h<=t.size):(t.extract l h).data.toList=List.take (h-l) (jn l t.data.toList):=by
 rw[m5]
 simp only[ByteArray.data_extract,Array.toList_extract,List.extract_eq_take_drop]
theorem w5{m n:Nat}(h:m<=n):Nat.ble m n=true:=Nat.ble_eq_true_of_le h
theorem CD{len k c:Nat}{aN af mx:Option I}{l h m:Nat}(ae:bounds len k aN af mx=some (l,h,m))(aq:k<=c):bounds len c aN af mx=some (l,h,if mx.isNone then c else m):=by
 have fin:∀(a3 bS:Nat) (E:Option Nat),a3<=bS->
   (match E with
   |none=>none
   |some ai=>match Nat.ble ai a3 with
    |false=>none
    |true=>match g8 0 aN with
     |none=>none
     |some l=>match Nat.ble l ai with
      |false=>none
      |true=>some (l,ai,a3))=some (l,h,m)->
   (match E with
   |none=>none
   |some ai=>match Nat.ble ai bS with
    |false=>none
    |true=>match g8 0 aN with
     |none=>none
     |some l=>match Nat.ble l ai with
      |false=>none
      |true=>some (l,ai,bS))=some (l,h,bS):=by
  intro a3 bS E hm fp
  cases E with
  |none=>cases fp
  |some ai=>
   simp only at fp⊢
   cases ab:Nat.ble ai a3 with
   |false=>rw[ab] at fp;cases fp
   |true=>
    rw[ab] at fp
    rw[w5 (Nat.le_trans (Nat.le_of_ble_eq_true ab) hm)]
    simp only at fp⊢
    cases aw:g8 0 aN with
    |none=>rw[aw] at fp;cases fp
    |some bB=>
     rw[aw] at fp
     simp only at fp⊢
     cases aJ:Nat.ble bB ai with
     |false=>rw[aJ] at fp;cases fp
     |true=>rw[aJ] at fp;simp only[Option.some.injEq,Prod.mk.injEq] at fp⊢;exact⟨fp.1,fp.2.1,trivial⟩
 unfold bounds at ae⊢
 cases mx with
 |none=>
  have aA:g8 k none=some k:=rfl
  have ay:g8 c none=some c:=rfl
  rw[aA] at ae;rw[ay]
  simp only at ae⊢
  rw[w5 (Nat.le_refl k)] at ae;rw[w5 (Nat.le_refl c)]
  simp only[Option.isNone_none,if_true] at ae⊢
  cases af with
  |none=>exact fin k c (some len) aq ae
  |some a=>exact fin k c (eC a) aq ae
 |some sA=>
  have aA:g8 k (some sA)=eC sA:=rfl
  have ay:g8 c (some sA)=eC sA:=rfl
  rw[aA] at ae;rw[ay]
  cases em:eC sA with
  |none=>rw[em] at ae;cases ae
  |some a3=>
   rw[em] at ae
   simp only at ae⊢
   cases ab:Nat.ble a3 k with
   |false=>rw[ab] at ae;cases ae
   |true=>
    rw[ab] at ae
    rw[w5 (Nat.le_trans (Nat.le_of_ble_eq_true ab) aq)]
    simp only[Option.isNone_some,Bool.false_eq_true,if_false] at ae⊢
    have O3:a3=m:=by
     cases af<;>simp only at ae
     · cases ae
     · split at ae<;>try cases ae
       split at ae<;>try cases ae
       split at ae<;>try cases ae
       split at ae<;>first|cases ae;rfl|cases ae
    subst O3
    cases af<;>exact ae
theorem O4(ai:br μ H w){t:TypeId}{x:I}{bz:Value}(aa:bl μ x bz){aN af mx:Option I}{q6 eJ mx':Option Value}(hZ:m9 μ aN q6)(j0:m9 μ af eJ)(iy:m9 μ mx mx'){v:I}
  (h:de P H t x aN af mx=some v):eO P μ H w (Instr.sliceAt t bz q6 eJ mx') v H:=by
 unfold de at h
 split at h
 ·
  rename_i s hu
  obtain⟨bs,rfl,rfl⟩:=aa
  cases mx with
  |some _=>cases h
  |none=>
   simp only at h
   cases mx' with
   |some _=>exact iy.elim
   |none=>
    split at h
    · rename_i l ae m ff
      cases h
      have bw:bs.data.toList.length=bs.size:=Array.length_toList
      rw[bw] at ff
      obtain⟨r1,r2,ed,fq,_⟩:=nX (P:=P) (w:=w) hZ j0 (μ:=μ) (mx:=none) (mx':=none) trivial ff false
      refine .same ai (v':=.string (bs.extract l ae)) ?_ ⟨_,rfl,O2 _ _ _ (by omega)⟩
      simp[Instr.sliceAt,Instr.slice,bU hu,r1]
    · cases h
 ·
  rename_i e hu
  cases aa
  split at h
  · rename_i sz r hs ff
    cases h
    obtain⟨l,ae,m⟩:=r
    obtain⟨r1,r2,ed,fq,_⟩:=nX (P:=P) (w:=w) hZ j0 iy ff true
    have:m=0/\l=0/\ae=0:=by omega
    obtain⟨rfl,rfl,rfl⟩:=this
    exact .same ai (v':=.slice none 0 0) (by simp[Instr.sliceAt,Instr.slice,bU hu,r1,run_sizeOf hs]) rfl
  · cases h
 ·
  rename_i e b off len cap hu
  obtain⟨i,m_,ag⟩:=aa
  cases ag
  split at h
  · rename_i sz l ae m hs ff
    cases h
    obtain⟨r1,r2,ed,fq,_⟩:=nX (P:=P) (w:=w) hZ j0 iy ff true
    refine .same ai (v':=.slice (some ⟨i.bk,i.base+(if m=l then off else off+l*sz),none⟩) (ae-l) (m-l)) ?_ ⟨i,m_,rfl⟩
    by_cases e:m=l
    · simp[Instr.sliceAt,Instr.slice,bU hu,r1,run_sizeOf hs,e]
    · simp[Instr.sliceAt,Instr.slice,bU hu,r1,run_sizeOf hs,e,add_plain,Nat.add_assoc]
  · cases h
 ·
  rename_i e b off len gz hu
  obtain⟨i,m_,c,rfl,q1,bw⟩:=aa
  split at h
  · rename_i sz hs
    split at h
    · rename_i Hh
      subst Hh
      cases mx with
      |none=>
       cases mx' with
       |some _=>exact iy.elim
       |none=>
        simp only at h
        split at h
        · rename_i l ae m ff
          have w6:bounds len c aN af none=some (l,ae,c):=CD ff q1
          obtain⟨r1,r2,ed,fq,_⟩:=nX (P:=P) (w:=w) hZ j0 (μ:=μ) (mx:=none) (mx':=none) trivial w6 true
          obtain⟨_,a7,b5,gr,_⟩:=nX (P:=P) (w:=w) hZ j0 (μ:=μ) (mx:=none) (mx':=none) trivial ff true
          have eP:(Instr.sliceAt t (.slice (some ⟨i.bk,i.base+off,none⟩) len c) q6 eJ none).run P w=.ok (.slice (some (if c=l then⟨i.bk,i.base+off,none⟩ else⟨i.bk,i.base+off+l*sz,none⟩)) (ae-l) (c-l)) w:=by
           by_cases e:c=l
           · subst e;simp[Instr.sliceAt,Instr.slice,bU hu,r1,run_sizeOf hs]
           · simp[Instr.sliceAt,Instr.slice,bU hu,r1,run_sizeOf hs,e,add_plain]
          split at h
          · rename_i Hi
            subst Hi
            cases h
            refine .same ai eP ⟨i,m_,c,?_,by omega,bw⟩
            by_cases e:c=0
            · simp[e]
            · simp[e]
          · rename_i Hi
            split at h
            · rename_i b8
              cases h
              simp only[Nat.blt_eq] at b8
              refine .same ai eP ⟨i,m_,c-l,?_,by omega,?_⟩
              · rw[if_neg (by omega)];simp[Nat.add_assoc]
              · have:c*sz=l*sz+(c-l)*sz:=by rw[<-Nat.add_mul];congr 1;omega
                omega
            · rename_i b8
              cases h
              have w7:¬l<len:=by simpa[Nat.blt_eq] using b8
              have h0:ae-l=0:=by omega
              rw[h0] at eP
              exact .same ai eP ⟨i,m_,rfl,_,c-l,rfl⟩
        · cases h
      |some sA=>
       simp only at h
       split at h
       · rename_i l ae m ff
         cases h
         obtain⟨_,a7,b5,gr,_⟩:=nX (P:=P) (w:=w) hZ j0 iy ff true
         have w6:bounds len c aN af (some sA)=some (l,ae,m):=CD ff q1
         obtain⟨r1,r2,ed,fq,_⟩:=nX (P:=P) (w:=w) hZ j0 iy w6 true
         refine .same ai (v':=.slice (some ⟨i.bk,i.base+(if m=l then off else off+l*sz),none⟩) (ae-l) (m-l)) ?_ ⟨i,m_,rfl⟩
         by_cases e:m=l
         · simp[Instr.sliceAt,Instr.slice,bU hu,r1,run_sizeOf hs,e]
         · simp[Instr.sliceAt,Instr.slice,bU hu,r1,run_sizeOf hs,e,add_plain,Nat.add_assoc]
       · cases h
    · cases h
  · cases h
 ·
  rename_i e b off len hu
  obtain⟨i,m_,rfl,a,c,rfl⟩:=aa
  split at h
  · rename_i sz r hs ff
    cases h
    obtain⟨l,ae,m⟩:=r
    obtain⟨_,a7,b5,gr,gb⟩:=nX (P:=P) (w:=w) hZ j0 iy ff true
    have:m=0/\l=0/\ae=0:=by omega
    obtain⟨rfl,rfl,rfl⟩:=this
    have w6:bounds 0 c aN af mx=some (0,0,(if mx.isNone then c else 0)):=CD ff (Nat.zero_le _)
    obtain⟨r1,r2,ed,fq,_⟩:=nX (P:=P) (w:=w) hZ j0 iy w6 true
    refine .same ai (v':=.slice (some a) 0 ((if mx.isNone then c else 0)-0)) ?_ ⟨i,m_,rfl,a,_,rfl⟩
    have aS:a.add (0*sz)=a:=by simp[Addr.add]
    simp[Instr.sliceAt,Instr.slice,bU hu,r1,run_sizeOf hs,Addr.add]
  · cases h
 ·
  rename_i n e b off hu
  obtain⟨i,m_,rfl⟩:=aa
  split at h
  · rename_i sz l ae m hs ff
    cases h
    obtain⟨r1,r2,ed,fq,_⟩:=nX (P:=P) (w:=w) hZ j0 iy ff false
    refine .same ai (v':=.slice (some ⟨i.bk,i.base+(if m=l then off else off+l*sz),none⟩) (ae-l) (m-l)) ?_ ⟨i,m_,rfl⟩
    by_cases e:m=l
    · simp[Instr.sliceAt,Instr.sureAddr,bU hu,r1,run_sizeOf hs,e]
    · simp[Instr.sliceAt,Instr.sureAddr,bU hu,r1,run_sizeOf hs,e,add_plain,Nat.add_assoc]
  · cases h
 ·
  rename_i arr b off hu
  obtain⟨i,m_,rfl⟩:=aa
  split at h
  · rename_i n e oZ
    split at h
    · rename_i sz l ae m hs ff
      cases h
      obtain⟨r1,r2,ed,fq,_⟩:=nX (P:=P) (w:=w) hZ j0 iy ff false
      refine .same ai (v':=.slice (some ⟨i.bk,i.base+(if m=l then off else off+l*sz),none⟩) (ae-l) (m-l)) ?_ ⟨i,m_,rfl⟩
      by_cases e:m=l
      · simp[Instr.sliceAt,Instr.slice,asAddr,bU hu,bU oZ,r1,run_sizeOf hs,e]
      · simp[Instr.sliceAt,Instr.slice,asAddr,bU hu,bU oZ,r1,run_sizeOf hs,e,add_plain,Nat.add_assoc]
    · cases h
  · cases h
 · cases h
theorem q7{t:TypeId}{off:Nat}{cs:List I}{l:List Value}(aw:b_ μ cs l){v:I}(h:iI P t cs off=some v):∃u,(part t ⟨l⟩ off).run P w=.ok u w/\bl μ v u:=by
 unfold iI at h
 split at h
 · rename_i n aS aK
   split at h
   · rename_i r ak
     cases h
     rw[m5] at ak
     obtain⟨ab,rfl⟩:=sx _ _ _ ak
     refine⟨.agg ⟨(l.drop off).take n⟩,?_,⟨_,rfl,?_⟩⟩
     · simp[part,uA aS,run_sizeOf aK,List.extract_eq_take_drop]
     · refine b_.wU (by have:=aw.length;simp[this]) λj a aL=>?_
       rw[List.getElem?_take] at aL⊢
       split at aL
       · rename_i CE
         rw[if_pos CE]
         rw[List.getElem?_drop] at aL⊢
         exact aw.get aL
       · cases aL
   · cases h
 · rename_i _ aS
   rw[pU] at h
   obtain⟨u,hu,ak⟩:=aw.get h
   refine⟨u,?_,ak⟩
   simp[part,uA aS,hu]
 · cases h
theorem O5(ai:br μ H w){t:TypeId}{bR:Array Field}{fd:Field}{f:Nat}(hu:P.underlying t=some (.struct bR))(hf:bR[f]? =some fd){cs:List I}{bz:Value}(aa:bl μ (.agg cs) bz){v:I}
  (h:iI P fd.type cs fd.offset=some v):eO P μ H w (Instr.field t bz f) v H:=by
 obtain⟨l,rfl,aw⟩:=aa
 obtain⟨u,ab,ad⟩:=q7 (P:=P) (w:=w) aw h
 exact .same ai (v':=u) (by simp[Instr.field,bU hu,hf,asAgg,ab]) ad
theorem O6(ai:br μ H w){s:TypeId}{bR:Array Field}{fd:Field}{f n b off:Nat}(hu:P.underlying s=some (.struct bR))(hf:bR[f]? =some fd)(aK:dh P fd.type=some n)(w8:n≠0){bz:Value}
  (aa:bl μ (.ptr b off) bz):eO P μ H w (Instr.fieldAt s bz f) (.ptr b (off+fd.offset)) H:=by
 obtain⟨i,af,rfl⟩:=aa
 refine .same ai (v':=.pointer (some ⟨i.bk,i.base+(off+fd.offset),none⟩)) ?_ ⟨i,af,rfl⟩
 simp[Instr.fieldAt,bU hu,hf,Instr.sureAddr,fieldPlace,run_sizeOf aK,w8,add_plain,Nat.add_assoc]
theorem O7(ai:br μ H w){t e:TypeId}{b off n k sz:Nat}{c:b3}{bh:IntKind}(hu:P.underlying t=some (.slice e))(hs:dh P e=some sz){bz:Value}(aa:bl μ (.slice b off n c) bz)(aq:k<n):
  eO P μ H w (Instr.indexAt t bz (.int bh (k:Int))) (.ptr b (off+k*sz)) H:=by
 obtain⟨i,af,ag⟩:=aa
 have ja:∃cap,bz=.slice (some ⟨i.bk,i.base+off,none⟩) n cap:=by
  cases c with
  |exact c=>exact⟨c,ag⟩
  |a1 gz=>obtain⟨c,h,_⟩:=ag;exact⟨c,h⟩
  |dead=>obtain⟨h0,_⟩:=ag;omega
 obtain⟨cap,rfl⟩:=ja
 refine .same ai (v':=.pointer (some ⟨i.bk,i.base+(off+k*sz),none⟩)) ?_ ⟨i,af,rfl⟩
 simp only[Instr.indexAt,asIntOf,Sem.run_bind,Sem.run_pure,Result.andThen_ok,bU hu]
 rw[if_pos ⟨by omega,by omega⟩]
 simp[run_sizeOf hs,add_plain,Nat.add_assoc]
theorem O8(ai:br μ H w){t e:TypeId}{b off n k sz:Nat}{bh:IntKind}(hu:P.underlying t=some (.array n e))(hs:dh P e=some sz){bz:Value}(aa:bl μ (.ptr b off) bz)(aq:k<n):
  eO P μ H w (Instr.indexAt t bz (.int bh (k:Int))) (.ptr b (off+k*sz)) H:=by
 obtain⟨i,af,rfl⟩:=aa
 refine .same ai (v':=.pointer (some ⟨i.bk,i.base+(off+k*sz),none⟩)) ?_ ⟨i,af,rfl⟩
 simp only[Instr.indexAt,asIntOf,Sem.run_bind,Sem.run_pure,Result.andThen_ok,bU hu,Instr.sureAddr]
 rw[if_pos ⟨by omega,by omega⟩]
 simp[run_sizeOf hs,add_plain,Nat.add_assoc]
theorem O9(ai:br μ H w){t e:TypeId}{n k sz:Nat}{bh:IntKind}{cs:List I}(hu:P.underlying t=some (.array n e))(hs:dh P e=some sz){bz:Value}(aa:bl μ (.agg cs) bz)(aq:k<n){v:I}
  (h:iI P e cs (k*sz)=some v):eO P μ H w (Instr.index t bz (.int bh (k:Int))) v H:=by
 obtain⟨l,rfl,aw⟩:=aa
 obtain⟨u,ab,ad⟩:=q7 (P:=P) (w:=w) aw h
 refine .same ai (v':=u) ?_ ad
 simp only[Instr.index,asIntOf,Sem.run_bind,Sem.run_pure,Result.andThen_ok,bU hu]
 rw[if_pos ⟨by omega,by omega⟩]
 simp[run_sizeOf hs,ab]
theorem O_(ai:br μ H w){t:TypeId}{k:Nat}{bh:IntKind}{s:List UInt8}(hu:P.underlying t=some .string){bz:Value}(aa:bl μ (.str s) bz){c:UInt8}(h:nth k s=some c):
  eO P μ H w (Instr.index t bz (.int bh (k:Int))) (.int .u8 (Int.ofNat c.toNat)) H:=by
 obtain⟨bs,rfl,rfl⟩:=aa
 rw[pU] at h
 refine .same ai (v':=.int .u8 (c.toNat:Int)) ?_ rfl
 have aq:k<bs.data.size:=by
  rcases Nat.lt_or_ge k bs.data.size with an|an
  · exact an
  · rw[List.getElem?_eq_none (by simpa using an)] at h;cases h
 have al:bs[k]? =some c:=by
  rw[Array.getElem?_toList] at h
  rw[<-h]
  show(if h:k<bs.size then some bs[k] else none)=_
  have eU:k<bs.size:=aq
  rw[dif_pos eU,Array.getElem?_eq_getElem aq];rfl
 simp only[Instr.index,asIntOf,Sem.run_bind,Sem.run_pure,Result.andThen_ok,bU hu]
 rw[if_pos (by omega)]
 simp[al]
end
end aM
namespace aM
open Go
section
variable {P:Program} {μ:bp} {H:J} {w:World}
theorem zM(μ:bp):∀l:List UInt8,b_ μ (c8 l) (l.map λb=>.int .u8 b.toNat)
 |[]=>rfl
 |b::l=>⟨_,_,rfl,rfl,zM μ l⟩
theorem Pa(t:ByteArray):(t.extract 0 t.size)=t:=by
 obtain⟨d⟩:=t
 simp[ByteArray.ext_iff,ByteArray.data_extract,ByteArray.size]
theorem zN(ai:br μ H w){size n:Nat}{x:I}{bz:Value}(aa:bl μ x bz){cs:List I}(h:fP H size x=some (n,cs)):
  (Builtin.lenOf bz).run P w=.ok n w/\(∃us:List Value,(Builtin.firstCells size n bz).run P w=.ok ⟨us⟩ w/\b_ μ cs us):=by
 cases x<;>simp only[fP] at h<;>try cases h
 · split at h<;>try cases h
   obtain⟨bs,rfl,rfl⟩:=aa
   refine⟨by rw[show bs.data.toList.length=bs.size from Array.length_toList];rfl,_,?_,zM μ _⟩
   have bw:bs.data.toList.length=bs.size:=Array.length_toList
   simp only[Builtin.firstCells,Sem.run_pure,bw,Pa]
   congr 1
   apply Array.ext'
   simp
 · cases aa
   exact⟨rfl,[],rfl,rfl⟩
 · rename_i b off len cap
   obtain⟨i,af,ag⟩:=aa
   cases cap with
   |dead=>
    obtain⟨rfl,a,c,rfl⟩:=ag
    simp at h
    obtain⟨rfl,rfl⟩:=h
    exact⟨rfl,[],by simp[Builtin.firstCells,_root_.Go.loadCells,loadCellsFrom],rfl⟩
   |exact c=>
    cases ag
    simp only at h
    split at h
    · rename_i bN aw
      cases h
      obtain⟨us,ab,ad⟩:=q0 (P:=P) ai af aw
      exact⟨rfl,us,by simp only[Builtin.firstCells];exact ab,ad⟩
    · cases h
   |a1 gz=>
    obtain⟨c,rfl,_⟩:=ag
    simp only at h
    split at h
    · rename_i bN aw
      cases h
      obtain⟨us,ab,ad⟩:=q0 (P:=P) ai af aw
      exact⟨rfl,us,by simp only[Builtin.firstCells];exact ab,ad⟩
    · cases h
theorem Pb{z:Value}(n:Nat){m7:List I}(aZ:b_ μ m7 z.cells.toList):b_ μ (fc n m7) (Builtin.zeroCells z.cells n).toList:=by
 have:=w1 aZ rfl n
 have aw:=aZ.length
 have ar:z.cells.toList.length=z.cells.size:=by simp
 rw[aw,ar] at this
 exact this
theorem Pc(need old:Nat)(h:old<need):Builtin.nextslicecap need old<=4*need+2048:=by
 unfold Builtin.nextslicecap
 split
 · omega
 · split
   · omega
   · have al:∀rounds c,c<=2*need+768->(∀k,k<=rounds->True)->Builtin.growBy need rounds c<=4*need+2048:=by
       intro rounds
       induction rounds with
       |zero=>intro c ag _;simp only[Builtin.growBy];omega
       |succ r a6=>
        intro c ag _
        simp only[Builtin.growBy]
        split
        · omega
        · rename_i b8
          exact a6 _ (by omega) (λ_ _=>trivial)
     exact al 4 old (by omega) (λ_ _=>trivial)
theorem br.Pd{w':World}(h:br μ H w){b:Nat}{o o':da}{i:eM}(ae:H.get b=some o)(g_:o.oV=false)(af:μ b=some i)
  (hs:w'.heap.size=w.heap.size)(a2:∀r,r≠i.bk->w'.heap[r]? =w.heap[r]?)(wW:w'.os=w.os)(Cx:w'.output=w.output)(Cy:w'.tape=w.tape)(base sz:Nat)
  (ak:oU (fm μ H.n ⟨i.bk,base,sz⟩) o' ⟨i.bk,base,sz⟩ w')(hdr:w.drawn<=w'.drawn:=by first|exact Nat.le_refl _|assumption):
  br (fm μ H.n ⟨i.bk,base,sz⟩) ((H.set b none).push o') w'/\b7 μ H w (fm μ H.n ⟨i.bk,base,sz⟩) ((H.set b none).push o') w':=by
 have hle:=h.nU ⟨i.bk,base,sz⟩
 have w9:b<H.n:=(h.lt b i af).1
 have uy:H.get b≠none:=by rw[ae];simp
 have hH:∀c,((H.set b none).push o').get c=if c=H.n then some o' else if c=b then none else H.get c:=λc=>by
  rw[J.gk,J.cR];rfl
 have pS:∀c,c<H.n->((H.set b none).push o').get c≠none->c≠b/\H.get c≠none:=λc ag aK=>by
  rw[hH,if_neg (by omega)] at aK
  by_cases e:c=b
  · rw[if_pos e] at aK;exact absurd rfl aK
  · rw[if_neg e] at aK;exact⟨e,aK⟩
 constructor
 · refine⟨λc fD j ag aL=>?_,λc d j k ag ao aL aq e=>?_,λc j aL=>?_,λc ag=>?_⟩
   · rw[hH] at ag
     by_cases e:c=H.n
     · rw[if_pos e] at ag;subst e;cases ag;rw[gp] at aL;cases aL;exact ak
     · rw[if_neg e] at ag;rw[ha _ _ e] at aL
       by_cases ay:c=b
       · rw[if_pos ay] at ag;cases ag
       · rw[if_neg ay] at ag
         exact(h.rel c fD j ag aL).mono hle (a2 _ λcH=>ay (h.inj c b j i (by rw[ag];simp) ⟨o,ae,g_⟩ aL af cH))
   · have side:∀c j,c≠H.n->((H.set b none).push o').get c≠none->fm μ H.n ⟨i.bk,base,sz⟩ c=some j->j.bk≠i.bk:=λc j p0 ag aL e=>by
       rw[ha _ _ p0] at aL
       obtain⟨ba,a7⟩:=pS c (h.lt c j aL).1 ag
       exact ba (h.inj c b j i a7 ⟨o,ae,g_⟩ aL af e)
     by_cases aA:c=H.n
     · by_cases ay:d=H.n
       · rw[aA,ay]
       · subst aA;rw[gp] at aL;cases aL
         exact absurd e.symm (side d k ay (by obtain⟨x,aa,_⟩:=ao;rw[aa];simp) aq)
     · by_cases ay:d=H.n
       · subst ay;rw[gp] at aq;cases aq
         exact absurd e (side c j aA ag aL)
       · rw[ha _ _ aA] at aL;rw[ha _ _ ay] at aq
         exact h.inj c d j k (pS c (h.lt c j aL).1 ag).2 (by
          obtain⟨x,aa,oX⟩:=ao
          rw[hH,if_neg ay] at aa
          split at aa
          · cases aa
          · exact⟨x,aa,oX⟩) aL aq e
   · by_cases e:c=H.n
     · subst e;rw[gp] at aL;cases aL
       have:=(h.lt b i af).2
       exact⟨by simp,by rw[hs];exact this⟩
     · rw[ha _ _ e] at aL
       have:=h.lt c j aL
       exact⟨by simp;omega,by rw[hs];exact this.2⟩
   · simp at ag
     rw[hH,if_neg (by omega),if_neg (by omega)];exact h.bound c (by omega)
 · refine⟨hle,by omega,by simp,λc ag aK=>(pS c ag aK).2,λc ag hm=>(by rw[hH,if_neg (by omega),if_neg];intro e;subst e;rw[af] at hm;cases hm),λr _ aK=>a2 r λe=>aK b i uy af e.symm,λc j ab ad=>?_,λc fD j ag qY aL=>?_,wW,Cx,Cy,hdr⟩
   · by_cases e:c=H.n
     · subst e;rw[gp] at ad;cases ad
       exact⟨Nat.le_refl _,.inr ⟨b,o,i,ae,g_,af,rfl⟩⟩
     · rw[ha _ _ e,ab] at ad;cases ad
   · have cV:c≠b:=by intro e;subst e;rw[ae] at ag;cases ag;rw[g_] at qY;cases qY
     have p0:=(h.lt c j aL).1
     refine⟨by rw[hH,if_neg (by omega),if_neg cV];exact ag,a2 _ λe=>cV (h.inj c b j i (by rw[ag];simp) ⟨o,ae,g_⟩ aL af e)⟩
theorem br.kill(h:br μ H w){b:Nat}{o:da}{i:eM}(ae:H.get b=some o)(g_:o.oV=false)(af:μ b=some i):
  br μ (H.set b none) w/\b7 μ H w μ (H.set b none) w:=by
 have pS:∀c,(H.set b none).get c≠none->H.get c≠none:=λc aK=>by
  rw[J.cR] at aK
  by_cases e:c=b
  · rw[if_pos e] at aK;exact absurd rfl aK
  · rw[if_neg e] at aK;exact aK
 constructor
 · refine⟨λc fD j ag aL=>?_,λc d j k ag ao=>h.inj c d j k (pS c ag) (by
     obtain⟨x,aa,oX⟩:=ao
     rw[J.cR] at aa
     split at aa
     · cases aa
     · exact⟨x,aa,oX⟩),h.lt,λc ag=>?_⟩
   · rw[J.cR] at ag
     by_cases e:c=b
     · rw[if_pos e] at ag;cases ag
     · rw[if_neg e] at ag;exact h.rel c fD j ag aL
   · rw[J.cR]
     split
     · rfl
     · exact h.bound c ag
 · refine⟨e2.refl μ,Nat.le_refl _,Nat.le_refl _,λc _ ag=>pS c ag,λc _ hm=>(by rw[J.cR,if_neg];intro e;subst e;rw[af] at hm;cases hm),λ_ _ _=>rfl,λc j ab ad=>(by rw[ab] at ad;cases ad),λc fD j ag qY aL=>⟨?_,rfl⟩,rfl,rfl,rfl,Nat.le_refl _⟩
   have cV:c≠b:=by intro e;subst e;rw[ae] at ag;cases ag;rw[g_] at qY;cases qY
   rw[J.cR,if_neg cV];exact ag
theorem br.drew(h:br μ H w):br μ H w.drew:=h.of_heap rfl
theorem b7.drew:b7 μ H w μ H w.drew:=b7.of_heap rfl rfl rfl rfl
theorem Pe{need bytes:Nat}(h:kI need bytes=true):(4*need+2048)*bytes<=281474976710656/\need<=281474976710656:=by
 simp only[kI,Nat.ble_eq] at h
 have ab:(4*need+2048)*bytes<=(4*need+2048)*(bytes+1):=Nat.mul_le_mul_left _ (by omega)
 have ad:(4*need+2048)*1<=(4*need+2048)*(bytes+1):=Nat.mul_le_mul_left _ (by omega)
 refine⟨Nat.le_trans ab h,?_⟩
 have ar:=Nat.le_trans ad h
 rw[Nat.mul_one] at ar
 generalize 281474976710656=q at ar⊢
 omega
theorem Pf{sT e:TypeId}{xT:Option TypeId}{i:TypeInfo}{z:Value}{argTypes:Array TypeId}{ty:TypeId}(h0:argTypes[0]? =some sT)(ab:argTypes[1]? =xT)(hu:P.underlying sT=some (.slice e))(aa:oG P xT=true)(af:P.info? e=some i)
  (aZ:∀w:World,(zeroValue e).run P w=.ok z w){base:Option Addr}{sLen sCap n:Nat}{bz:Value}(aw:(Builtin.lenOf bz).run P w=.ok n w){us old:List Value}(hold:(Builtin.firstCells i.size sLen (.slice base sLen sCap)).run P w.drew=.ok ⟨old⟩ w.drew)
  (q8:(Builtin.firstCells i.size n bz).run P w.drew=.ok ⟨us⟩ w.drew)(b8:sCap<sLen+n)(o0:kI (sLen+n) i.bytes=true):
  ∃lH,sLen+n<=lH/\(Builtin.append_ argTypes ty #[.slice base sLen sCap,bz]).run P w=
   .ok (.slice (some ⟨w.heap.size,0,none⟩) (sLen+n) lH) (w.drew.alloc (.cells (⟨old⟩++⟨us⟩++Builtin.zeroCells z.cells (lH-(sLen+n))) e)):=by
 obtain⟨a3,bS⟩:=Pe o0
 have Pg:=Pc (sLen+n) sCap b8
 have uB:¬(Builtin.nextslicecap (sLen+n) sCap*i.bytes>2^48):=by
  have ab:Builtin.nextslicecap (sLen+n) sCap*i.bytes<=(4*(sLen+n)+2048)*i.bytes:=Nat.mul_le_mul_right _ Pg
  have ad:(2:Nat)^48=281474976710656:=by rfl
  rw[ad]
  exact Nat.not_lt.2 (Nat.le_trans ab a3)
 have Ph:IntKind.max .i64=9223372036854775807:=rfl
 have jt:¬(((sLen+n:Nat):Int)>IntKind.i64.max):=by rw[Ph];omega
 have Hj:¬(sLen+n<=sCap):=by omega
 have bw:∀w:World,(_root_.Go.sizeOf e).run P w=.ok i.size w:=λw=>by simp[_root_.Go.sizeOf,run_typeInfo af]
 have zO:(Question.appendCap (sLen+n) sCap e).forced=false:=rfl
 have w_:∀w:World,(typeInfo e).run P w=.ok i w:=λw=>run_typeInfo af
 have zP:∀(c:Nat) (cs:Array Value),(_root_.Go.newRow e cs).run P w.drew=.ok ⟨w.heap.size,0,none⟩ (w.drew.alloc (.cells cs e)):=λc cs=>rfl
 refine⟨(Question.appendCap (sLen+n) sCap e).cut (w.tape w.drawn (Question.appendCap (sLen+n) sCap e)),by simp[Question.cut],?_⟩
 cases xT with
 |none=>
  simp only[Builtin.append_,h0,ab,List.getElem?_toArray,List.getElem?_cons_zero,List.getElem?_cons_succ,Sem.run_bind,bU hu,Result.andThen_ok,bw,Sem.run_pure,aw,Bool.false_eq_true,if_false,if_neg Hj,w_,jt,false_and,if_neg uB,
   run_choose,zO,run_askRoom,World.drew_eq,hold,q8,Bool.not_false,if_true,aZ,zP 0]
 |some CF=>
  simp only[oG] at aa
  cases ao:P.underlying CF with
  |none=>rw[ao] at aa;cases aa
  |some d=>
   rw[ao] at aa
   cases d<;>first
   |(cases aa;done)
   |simp only[Builtin.append_,h0,ab,List.getElem?_toArray,List.getElem?_cons_zero,List.getElem?_cons_succ,Sem.run_bind,bU hu,bU ao,Result.andThen_ok,bw,Sem.run_pure,aw,Bool.false_eq_true,if_false,if_neg Hj,w_,jt,false_and,if_neg uB,
    run_choose,zO,run_askRoom,World.drew_eq,hold,q8,Bool.not_false,if_true,aZ,zP 0]
theorem xa{sT e:TypeId}{xT:Option TypeId}{i:TypeInfo}{argTypes:Array TypeId}{ty:TypeId}(h0:argTypes[0]? =some sT)(ab:argTypes[1]? =xT)(hu:P.underlying sT=some (.slice e))(aa:oG P xT=true)(af:P.info? e=some i)
  {base:Option Addr}{sLen sCap n:Nat}{bz:Value}(aw:(Builtin.lenOf bz).run P w=.ok n w){us:List Value}
  (q8:(Builtin.firstCells i.size n bz).run P w=.ok ⟨us⟩ w)(hle:sLen+n<=sCap):
  (Builtin.append_ argTypes ty #[.slice base sLen sCap,bz]).run P w=match base with
   |some a=>((_root_.Go.storeCells (a.add (sLen*i.size)) us).run P w).andThen λ_ w'=>.ok (.slice base (sLen+n) sCap) w'
   |none=>.ok (.slice base (sLen+n) sCap) w:=by
 have bw:∀w:World,(_root_.Go.sizeOf e).run P w=.ok i.size w:=λw=>by simp[_root_.Go.sizeOf,run_typeInfo af]
 cases xT with
 |none=>
  cases base<;>simp only[Builtin.append_,h0,ab,List.getElem?_toArray,List.getElem?_cons_zero,List.getElem?_cons_succ,Sem.run_bind,bU hu,Result.andThen_ok,bw,Sem.run_pure,aw,Bool.false_eq_true,if_false,if_pos hle,Bool.not_false,if_true,q8]
 |some CF=>
  simp only[oG] at aa
  cases ao:P.underlying CF with
  |none=>rw[ao] at aa;cases aa
  |some d=>
   rw[ao] at aa
   cases d<;>first
   |(cases aa;done)
   |cases base<;>simp only[Builtin.append_,h0,ab,List.getElem?_toArray,List.getElem?_cons_zero,List.getElem?_cons_succ,Sem.run_bind,bU hu,bU ao,Result.andThen_ok,bw,Sem.run_pure,aw,Bool.false_eq_true,if_false,if_pos hle,Bool.not_false,if_true,q8]
theorem Pj{l:List I}(h:l.all I.cQ=true):∀a∈l,a.cQ=true:=λa aS=>List.all_eq_true.1 h a aS
theorem CG(ai:br μ H w){sT e:TypeId}{xT:Option TypeId}{i:TypeInfo}{z:I}{argTypes:Array TypeId}{ty:TypeId}(h0:argTypes[0]? =some sT)(ab:argTypes[1]? =xT)(hu:P.underlying sT=some (.slice e))(aa:oG P xT=true)
  (af:P.info? e=some i)(aZ:d_ P e=some z){base:Option Addr}{sLen sCap n:Nat}{x:I}{bz:Value}(zQ:bl μ x bz){cs:List I}(fy:fP H i.size x=some (n,cs)){old:List I}
  (hold:∃us:List Value,(Builtin.firstCells i.size sLen (.slice base sLen sCap)).run P w.drew=.ok ⟨us⟩ w.drew/\b_ μ old us)(xb:old.length=sLen*i.size)(hI:cs.length=n*i.size)(b8:sCap<sLen+n){v:I}{H1 aV:J}(iL:br μ H1 w)(Pk:b7 μ H w μ H1 w)
  {fz:Nat}(al:kh H1 e i.bytes i.size (sLen+n) z (old++cs) fz=some (v,aV)):eO P μ H w (Builtin.append_ argTypes ty #[.slice base sLen sCap,bz]) v aV:=by
 obtain⟨fr,Hk,rfl,ae⟩:=lF (P:=P) (w:=w) aZ
 have Pl:∀w:World,(zeroValue e).run P w=.ok fr w:=λw=>by
  unfold d_ at aZ
  simp only[af] at aZ
  cases Hl:i.zero with
  |none=>rw[Hl] at aZ;cases aZ
  |some CH=>
   have ba:∀w:World,(zeroValue e).run P w=.ok CH w:=λw=>by simp[zeroValue,run_typeInfo af,Hl]
   rw[ba] at Hk
   cases Hk
   exact ba w
 obtain⟨aw,us,iM,la⟩:=zN (P:=P) ai zQ fy
 obtain⟨_,q9,Pm,Hm⟩:=zN (P:=P) ai.drew zQ fy
 obtain⟨os,wW,Hn⟩:=hold
 unfold kh at al
 split at al
 · rename_i ag
   simp only[Bool.and_eq_true] at ag
   obtain⟨⟨o0,m8⟩,eg⟩:=ag
   cases al
   obtain⟨lH,CI,Pn⟩:=Pf (P:=P) (w:=w) (ty:=ty) h0 ab hu aa af Pl aw wW Pm b8 o0
   have ia:=(jY μ fr).cells ae
   have Po:=Nat.eq_of_beq_eq_true m8
   have Pp:fr.cells.size=i.size:=by have:=ia.length;rw[Po] at this;simpa using this.symm
   have Pq:b_ μ (old++cs) (os++q9):=Hn.append Hm
   have Pr:os.length=sLen*i.size:=by rw[<-Hn.length,xb]
   have Ps:q9.length=n*i.size:=by rw[<-Hm.length,hI]
   have hmul:(sLen+n)*i.size=sLen*i.size+n*i.size:=Nat.add_mul _ _ _
   have Ho:lH*i.size=(sLen+n)*i.size+(lH-(sLen+n))*i.size:=by rw[<-Nat.add_mul,Nat.add_sub_of_le CI]
   have Pt:0+lH*i.size=((⟨os⟩:Array Value)++⟨q9⟩++Builtin.zeroCells fr.cells (lH-(sLen+n))).size:=by
    have ba:(⟨os⟩:Array Value).size=sLen*i.size:=Pr
    have a7:(⟨q9⟩:Array Value).size=n*i.size:=Ps
    have b5:(Builtin.zeroCells fr.cells (lH-(sLen+n))).size=(lH-(sLen+n))*i.size:=by
     unfold Builtin.zeroCells;rw[Array.size_map,Array.size_range,Pp]
    rw[Array.size_append,Array.size_append,ba,a7,b5,Ho,hmul]
    omega
   have hle:=iL.drew.nU ⟨w.heap.size,0,lH*i.size⟩
   obtain⟨r1,r2⟩:=iL.drew.alloc (.cells (old++cs) e .a1 0 fz) (.cells (⟨os⟩++⟨q9⟩++Builtin.zeroCells fr.cells (lH-(sLen+n))) e) (lH*i.size)
    ⟨_,0,0,World.heap_alloc_new _ _,λj a aL=>by
      obtain⟨u,mf,ak⟩:=Pq.get aL
      refine⟨u,?_,ak.mono hle⟩
      have uC:j<(os++q9).length:=by
       rcases Nat.lt_or_ge j (os++q9).length with h|h
       · exact h
       · rw[List.getElem?_eq_none h] at mf;cases mf
      rw[Nat.zero_add,Array.getElem?_append_left (by simpa using uC)]
      simpa using mf,Pt,by
      refine⟨?_,λj _ _ h=>by omega⟩
      simp[xb,hI];omega⟩
   refine⟨_,_,_,Pn,⟨_,gp _ _ _,lH,rfl,CI,by simp⟩,r1,?_⟩
   exact Pk.trans ai iL (b7.drew.trans iL iL.drew r2)
 · cases al
end
end aM
