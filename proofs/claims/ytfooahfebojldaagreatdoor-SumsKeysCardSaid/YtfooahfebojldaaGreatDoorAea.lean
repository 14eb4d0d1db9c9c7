/-
  THE ABSTRACT EVALUATOR (the evaluator's definitions; values and memory): a deterministic semantics of loaded code, and the proof that its runs are runs of the program in the model, whatever the tape draws. No condition.
-/
import GoSem.Step
import Derived.Calls
import Derived.Laws.Sem
import Derived.Laws.World
set_option linter.unusedVariables false
set_option linter.unusedSimpArgs false
namespace aB
open Go
inductive ch where
 |exact(n:Nat)
 |aS (fP:Nat)
 |dead
inductive I where
 |bad
 |bool (b:Bool)
 |int (k:IntKind) (n:Int)
 |str (s:List UInt8)
 |bm
 |ptr (b off:Nat)
 |bf
 |slice (b off len:Nat) (cap:ch)
 |gU
 |map (r:Nat)
 |e4
 |fn (f:Nat) (first aK:List I)
 |b8 (l:Nat)
 |ew
 |iface (t:Nat) (v:I)
 |agg (cs:List I)
 |aP (vs:List I)
 deriving Inhabited
def I.b0:I->Bool
 |.bad|.agg _|.aP _=>false
 |_=>true
def I.cells:I->List I
 |.agg cs=>cs
 |v=>[v]
inductive hy where
 |here|l (p:hy)|r (p:hy)
inductive aR where
 |leaf
 |node (l:aR) (v:I) (r:aR)
def vb:Nat->Nat->hy
 |0,_=>.here
 |f+1,n=>match n with
  |0=>.here
  |m+1=>match Nat.mod m 2 with
   |0=>.l (vb f (Nat.div m 2))
   |_=>.r (vb f (Nat.div m 2))
def gw(n:Nat):hy:=vb n n
def aR.get:hy->aR->I
 |.here,.node _ v _=>v
 |.l p,.node l _ _=>get p l
 |.r p,.node _ _ r=>get p r
 |_,.leaf=>.bad
def aR.AE(l:aR)(v:I)(r:aR):aR:=match l with
 |.leaf=>.node .leaf v r
 |.node a b c=>.node (.node a b c) v r
def aR.AF(l:aR)(v:I)(r:aR):aR:=match r with
 |.leaf=>.node l v .leaf
 |.node a b c=>.node l v (.node a b c)
def aR.set:hy->I->aR->aR
 |.here,x,.node l _ r=>.node l x r
 |.here,x,.leaf=>.node .leaf x .leaf
 |.l p,x,.node l v r=>aR.AE (set p x l) v r
 |.l p,x,.leaf=>aR.AE (set p x .leaf) .bad .leaf
 |.r p,x,.node l v r=>aR.AF l v (set p x r)
 |.r p,x,.leaf=>aR.AF .leaf .bad (set p x .leaf)
inductive ey where
 |own|aS|ro|fz
 deriving DecidableEq
structure fm where
 key:I
 val:I
 born:Nat
inductive bP where
 |call (f:Nat) (args:List I)
 |collected (r:Nat)
inductive cp where
 |cells (cs:List I) (el:Nat) (k:ey) (bk ae:Nat)
 |map (es:List fm) (clock:Nat)
 |nY (s:List UInt8) (pos:Nat)
 |mapIter (m:Option Nat) (since:Nat) (seen:List Nat) (last:Nat)
 |loop (st:LoopState) (fw:Option Code) (fn:Nat) (lK:aR) (params:List Nat) (assign body:Code) (defers:Nat)
 |defrd (calls:Option (List bP))
 |raw (o:Obj)
inductive ez where
 |leaf
 |node (l:ez) (v:Option cp) (r:ez)
def ez.get:ez->Nat->Option cp
 |.leaf,_=>none
 |.node l v r,n=>match n with
  |0=>v
  |m+1=>match Nat.mod m 2 with
   |0=>get l (Nat.div m 2)
   |_=>get r (Nat.div m 2)
def ez.j9:Nat->ez->Nat->Option cp->ez
 |0,t,_,_=>t
 |f+1,.leaf,n,x=>match n with
  |0=>.node .leaf x .leaf
  |m+1=>match Nat.mod m 2 with
   |0=>.node (j9 f .leaf (Nat.div m 2) x) none .leaf
   |_=>.node .leaf none (j9 f .leaf (Nat.div m 2) x)
 |f+1,.node l v r,n,x=>match n with
  |0=>.node l x r
  |m+1=>match Nat.mod m 2 with
   |0=>.node (j9 f l (Nat.div m 2) x) v r
   |_=>.node l v (j9 f r (Nat.div m 2) x)
structure J where
 t:ez
 n:Nat
def J.get(h:J)(b:Nat):Option cp:=h.t.get b
def J.set(h:J)(b:Nat)(o:Option cp):J:=⟨ez.j9 (b+1) h.t b o,h.n⟩
def J.push(h:J)(o:cp):J:=⟨ez.j9 (h.n+1) h.t h.n (some o),h.n+1⟩
inductive e5 where
 |val (v:I) (h:J)
 |b1 (v:I) (h:J)
 |call (f:Nat) (args:List I) (h:J)
 |b8 (l:Nat) (args:List I) (h:J)
 |jn (d:bP)
 |ry
 |fail (ia:String)
inductive ao where
 |ret (v:I) (h:J)
 |b1 (v:I) (h:J)
 |fail (ia:String)
mutual
def nc:Value->I
 |.bool b=>.bool b
 |.int k n=>.int k n
 |.string s=>.str s.data.toList
 |.pointer none=>.bm
 |.slice none 0 0=>.bf
 |.map none=>.gU
 |.nilFunc=>.e4
 |.nilIface=>.ew
 |.agg ⟨cs⟩=>.agg (xU cs)
 |.tuple ⟨vs⟩=>.aP (xU vs)
 |_=>.bad
def xU:List Value->List I
 |[]=>[]
 |v::vs=>nc v::xU vs
end
def nth{α:Type}:Nat->List α->Option α
 |_,[]=>none
 |0,a::_=>some a
 |n+1,_::l=>nth n l
def takeN:Nat->List I->Option (List I)
 |0,_=>some []
 |_+1,[]=>none
 |n+1,a::l=>match takeN n l with
  |some r=>some (a::r)
  |none=>none
def ho{α:Type}:Nat->List α->List α
 |0,l=>l
 |_+1,[]=>[]
 |n+1,_::l=>ho n l
def dU:List UInt8->List UInt8->Bool
 |[],[]=>true
 |a::x,b::y=>match Nat.beq a.toNat b.toNat with
  |true=>dU x y
  |false=>false
 |_,_=>false
def dB:List UInt8->List UInt8->Bool
 |_,[]=>false
 |[],_::_=>true
 |a::x,b::y=>match Nat.beq a.toNat b.toNat with
  |true=>dB x y
  |false=>Nat.blt a.toNat b.toNat
def bD(x y:Int):Bool:=decide (x<y)
def dv(x y:Int):Bool:=decide (x<=y)
def a0(x y:Int):Bool:=x==y
def loadCells(h:J)(b off n:Nat):Option (List I):=
 match h.get b with
 |some (.cells cs _ _ _ _)=>takeN n (ho off cs)
 |_=>none
def au(h:J)(b off:Nat):Option I:=
 match h.get b with
 |some (.cells cs _ _ _ _)=>nth off cs
 |_=>none
def iN(k:ey)(bk ae off n:Nat):Bool:=
 match k with
 |.ro|.fz=>false
 |_=>Nat.ble ae bk||Nat.ble (off+n) bk||Nat.ble ae off
def eR:Nat->List I->List I->Option (List I)
 |0,[],cs=>some cs
 |0,_::_,[]=>none
 |0,v::vs,_::cs=>match v.b0 with
  |true=>match eR 0 vs cs with
   |some r=>some (v::r)
   |none=>none
  |false=>none
 |_+1,[],cs=>some cs
 |_+1,_::_,[]=>none
 |n+1,vs,c::cs=>match eR n vs cs with
  |some r=>some (c::r)
  |none=>none
def storeCells(h:J)(b off:Nat)(vs:List I):Option J:=
 match h.get b with
 |some (.cells cs el k bk ae)=>
  match iN k bk ae off vs.length with
  |true=>match eR off vs cs with
   |some bX=>some (h.set b (some (.cells bX el k bk ae)))
   |none=>none
  |false=>none
 |_=>none
def newRow(h:J)(el:Nat)(cs:List I):Option (Nat×J):=
 match cs.all I.b0 with
 |true=>some (h.n,h.push (.cells cs el .own 0 0))
 |false=>none
def nd(P:Program)(t:TypeId):Option Bool:=
 match P.underlying t with
 |some (.struct _)=>some true
 |some (.array _ _)=>some true
 |some _=>some false
 |none=>none
def dd(P:Program)(t:TypeId):Option Nat:=match P.info? t with
 |some i=>some i.size
 |none=>none
def ea(P:Program)(t:TypeId):Option I:=match P.info? t with
 |some i=>match i.zero with
  |some z=>match nc z with
   |.bad=>none
   |a=>some a
  |none=>none
 |none=>none
def kx(P:Program)(t:TypeId)(cs:List I)(off:Nat):Option I:=
 match nd P t,dd P t with
 |some true,some n=>match takeN n (ho off cs) with
  |some r=>some (.agg r)
  |none=>none
 |some false,_=>nth off cs
 |_,_=>none
def iO(place:Nat->Option (Nat×Nat))(cells:List I):List (Nat×I)->Option (List I)
 |[]=>some cells
 |(i,v)::rest=>
  match v with
  |.bad=>none
  |v=>match place i with
   |none=>none
   |some (off,size)=>
    match Nat.beq v.cells.length size&&Nat.ble (off+size) cells.length with
    |true=>match eR off v.cells cells with
     |some Lq=>iO place Lq rest
     |none=>none
    |false=>none
def eD{α:Type}:Nat->List α->List α
 |0,_=>[]
 |n+1,l=>l++eD n l
def eqFields(P:Program)(E:TypeId->I->I->Option Bool)(xs eS:List I):List Field->Option Bool
 |[]=>some true
 |f::cc=>match decide (f.name= "_") with
  |true=>eqFields P E xs eS cc
  |false=>match kx P f.type xs f.offset,kx P f.type eS f.offset with
   |some a,some b=>match E f.type a b with
    |some true=>eqFields P E xs eS cc
    |r=>r
   |_,_=>none
def vc(P:Program)(E:TypeId->I->I->Option Bool)(e:TypeId)(sz:Nat)(xs eS:List I):Nat->Nat->Option Bool
 |0,_=>some true
 |n+1,i=>match kx P e xs (i*sz),kx P e eS (i*sz) with
  |some a,some b=>match E e a b with
   |some true=>vc P E e sz xs eS n (i+1)
   |r=>r
  |_,_=>none
def AG(h:J)(a i b j:Nat):Option Bool:=
 match Nat.beq a b with
 |true=>some (Nat.beq i j)
 |false=>match h.get a,h.get b with
  |some (.cells _ _ .own 0 0),some (.cells _ _ .own 0 0)=>some false
  |_,_=>none
def hz(P:Program)(h:J):Nat->TypeId->I->I->Option Bool
 |0,_,_,_=>none
 |d+1,t,x,y=>
  match P.underlying t with
  |none=>none
  |some .bool=>match x,y with
   |.bool a,.bool b=>some (a==b)
   |_,_=>none
  |some (.int _)=>match x,y with
   |.int j a,.int k b=>if j=k then some (a0 a b) else none
   |_,_=>none
  |some .string=>match x,y with
   |.str a,.str b=>some (dU a b)
   |_,_=>none
  |some (.pointer e)=>match x,y with
   |.bm,.bm=>some true
   |.bm,.ptr _ _=>some false
   |.ptr _ _,.bm=>some false
   |.ptr a i,.ptr b j=>match dd P e with
    |some (_+1)=>AG h a i b j
    |_=>none
   |_,_=>none
  |some (.slice _)=>match x,y with
   |.bf,.bf=>some true
   |.bf,.slice _ _ _ _=>some false
   |.slice _ _ _ _,.bf=>some false
   |_,_=>none
  |some (.map _ _)=>match x,y with
   |.gU,.gU=>some true
   |.gU,.map _=>some false
   |.map _,.gU=>some false
   |_,_=>none
  |some (.func _ _ _)=>match x,y with
   |.e4,.e4=>some true
   |.e4,.fn _ _ _=>some false
   |.fn _ _ _,.e4=>some false
   |_,_=>none
  |some (.interface _)=>match x,y with
   |.ew,.ew=>some true
   |.ew,.iface _ _=>some false
   |.iface _ _,.ew=>some false
   |.iface a v,.iface b w=>match Nat.beq a b with
    |false=>some false
    |true=>match P.info? a with
     |some i=>match i.comparable with
      |true=>hz P h d a v w
      |false=>none
     |none=>none
   |_,_=>none
  |some (.struct cc)=>match x,y with
   |.agg xs,.agg eS=>match P.stoodInHeld t with
    |true=>none
    |false=>eqFields P (hz P h d) xs eS cc.toList
   |_,_=>none
  |some (.array n e)=>match x,y with
   |.agg xs,.agg eS=>match dd P e with
    |some sz=>vc P (hz P h d) e sz xs eS n 0
    |none=>none
   |_,_=>none
  |some _=>none
def pY(P:Program)(t:TypeId)(x y:Operand)(a b:I):Bool:=
 match a,b with
 |.ew,.ew=>(x matches .const _)||(y matches .const _)
 |.agg _,.agg _=>!P.eqGuardType P.depth t
 |_,_=>true
def arith(op:BinOp)(k:IntKind)(x y:Int):Option I:=
 match op with
 |.add=>some (.int k (k.wrap (x+y)))
 |.sub=>some (.int k (k.wrap (x-y)))
 |.mul=>some (.int k (k.wrap (x*y)))
 |.quo=>if y=0 then none else some (.int k (k.wrap (x.tdiv y)))
 |.rem=>if y=0 then none else some (.int k (x.tmod y))
 |.and=>some (.int k (k.wrap (BitVec.ofInt k.bits x&&&BitVec.ofInt k.bits y).toNat))
 |.or=>some (.int k (k.wrap (BitVec.ofInt k.bits x|||BitVec.ofInt k.bits y).toNat))
 |.xor=>some (.int k (k.wrap (BitVec.ofInt k.bits x^^^BitVec.ofInt k.bits y).toNat))
 |.andNot=>some (.int k (k.wrap (BitVec.ofInt k.bits x&&& ~~~BitVec.ofInt k.bits y).toNat))
 |.eql=>some (.bool (a0 x y))
 |.neq=>some (.bool (!a0 x y))
 |.lss=>some (.bool (bD x y))
 |.leq=>some (.bool (dv x y))
 |.gtr=>some (.bool (bD y x))
 |.geq=>some (.bool (dv y x))
 |_=>none
def mw(op:BinOp)(k:IntKind)(x y:Int):Option I:=
 if y<0 then none else
 match op with
 |.shl=>some (.int k (k.wrap (x*2^(min y.toNat k.bits))))
 |.shr=>some (.int k (x.fdiv (2^(min y.toNat k.bits))))
 |_=>none
def eA(op:BinOp)(x y:List UInt8):Option I:=
 match op with
 |.add=>if((x.length+y.length:Nat):Int)>IntKind.i64.max then none else some (.str (x++y))
 |.eql=>some (.bool (dU x y))
 |.neq=>some (.bool (!dU x y))
 |.lss=>some (.bool (dB x y))
 |.leq=>some (.bool (!dB y x))
 |.gtr=>some (.bool (dB y x))
 |.geq=>some (.bool (!dB x y))
 |_=>none
def ej(P:Program)(h:J)(op:BinOp)(t:TypeId)(jN jO:Operand)(x y:I):Option I:=
 match x,y with
 |.int k a,.int ff b=>
  match op with
  |.shl|.shr=>mw op k a b
  |_=>if k=ff then arith op k a b else none
 |.str a,.str b=>eA op a b
 |x,y=>
  match op with
  |.eql=>if pY P t jN jO x y then(match hz P h 100 t x y with
   |some b=>some (.bool b)
   |none=>none) else none
  |.neq=>if pY P t jN jO x y then(match hz P h 100 t x y with
   |some b=>some (.bool (!b))
   |none=>none) else none
  |_=>none
def fo:I->Option Nat
 |.int _ (.ofNat n)=>some n
 |_=>none
def jo(d:Nat):Option I->Option Nat
 |none=>some d
 |some v=>fo v
def bounds(len cap:Nat)(bk ae mx:Option I):Option (Nat×Nat×Nat):=
 match jo cap mx with
 |none=>none
 |some m=>match Nat.ble m cap with
  |false=>none
  |true=>match(match ae,mx with
     |none,none=>some len
     |none,some _=>none
     |some v,_=>fo v) with
   |none=>none
   |some aj=>match Nat.ble aj m with
    |false=>none
    |true=>match jo 0 bk with
     |none=>none
     |some l=>match Nat.ble l aj with
      |false=>none
      |true=>some (l,aj,m)
def e1(P:Program)(h:J)(t:TypeId)(x:I)(bk ae mx:Option I):Option I:=
 match P.underlying t,x with
 |some .string,.str s=>match mx with
  |some _=>none
  |none=>match bounds s.length s.length bk ae none with
   |some (l,aj,_)=>some (.str (List.take (aj-l) (ho l s)))
   |none=>none
 |some (.slice e),.bf=>match dd P e,bounds 0 0 bk ae mx with
  |some _,some _=>some .bf
  |_,_=>none
 |some (.slice e),.slice b off len (.exact cap)=>match dd P e,bounds len cap bk ae mx with
  |some sz,some (l,aj,m)=>some (.slice b (if m=l then off else off+l*sz) (aj-l) (.exact (m-l)))
  |_,_=>none
 |some (.slice e),.slice b off len (.aS fP)=>match dd P e with
  |some sz=>if sz=fP then(match mx with
   |none=>match bounds len len bk ae none with
    |some (l,aj,_)=>if l=0 then some (.slice b off aj (.aS fP)) else if Nat.blt l len then some (.slice b (off+l*sz) (aj-l) (.aS fP)) else some (.slice b off 0 .dead)
    |none=>none
   |some _=>match bounds len len bk ae mx with
    |some (l,aj,m)=>some (.slice b (if m=l then off else off+l*sz) (aj-l) (.exact (m-l)))
    |none=>none) else none
  |none=>none
 |some (.slice e),.slice b off len .dead=>match dd P e,bounds 0 0 bk ae mx with
  |some _,some _=>some (.slice b off 0 .dead)
  |_,_=>none
 |some (.array n e),.ptr b off=>match dd P e,bounds n n bk ae mx with
  |some sz,some (l,aj,m)=>some (.slice b (if m=l then off else off+l*sz) (aj-l) (.exact (m-l)))
  |_,_=>none
 |some (.pointer arr),.ptr b off=>match P.underlying arr with
  |some (.array n e)=>match dd P e,bounds n n bk ae mx with
   |some sz,some (l,aj,m)=>some (.slice b (if m=l then off else off+l*sz) (aj-l) (.exact (m-l)))
   |_,_=>none
  |_=>none
 |_,_=>none
def bO(P:Program)(h:J)(t:TypeId)(x:I):Option I:=
 match P.underlying t,x with
 |some .string,.str s=>some (.int .i64 (Int.ofNat s.length))
 |some (.array n _),_=>some (.int .i64 (Int.ofNat n))
 |some (.slice _),.slice _ _ n _=>some (.int .i64 (Int.ofNat n))
 |some (.slice _),.bf=>some (.int .i64 0)
 |some (.map _ _),.gU=>some (.int .i64 0)
 |some (.map _ _),.map r=>match h.get r with
  |some (.map es _)=>some (.int .i64 (Int.ofNat es.length))
  |_=>none
 |some (.pointer a),_=>match P.underlying a with
  |some (.array n _)=>some (.int .i64 (Int.ofNat n))
  |_=>none
 |_,_=>none
def xV(P:Program)(t:TypeId)(x:I):Option I:=
 match P.underlying t,x with
 |some (.array n _),_=>some (.int .i64 (Int.ofNat n))
 |some (.slice _),.slice _ _ _ (.exact n)=>some (.int .i64 (Int.ofNat n))
 |some (.slice _),.bf=>some (.int .i64 0)
 |_,_=>none
def cP:List UInt8->List I
 |[]=>[]
 |b::l=>.int .u8 (Int.ofNat b.toNat)::cP l
def hW(h:J)(size:Nat):I->Option (Nat×List I)
 |.bf=>some (0,[])
 |.str s=>match size with
  |1=>some (s.length,cP s)
  |_=>none
 |.slice b off len .dead=>if len=0 then some (0,[]) else none
 |.slice b off len _=>match loadCells h b off (len*size) with
  |some cs=>some (len,cs)
  |none=>none
 |_=>none
def k2(need bytes:Nat):Bool:=Nat.ble ((4*need+2048)*(bytes+1)) 281474976710656
def nZ(P:Program):Option TypeId->Bool
 |none=>true
 |some t=>match P.underlying t with
  |some (.int _)=>false
  |some _=>true
  |none=>false
def j_(h:J)(e bytes size need:Nat)(z:I)(cs:List I)(fz:Nat):Option (I×J):=
 match k2 need bytes&&Nat.beq z.cells.length size&&cs.all I.b0 with
 |true=>some (.slice h.n 0 need (.aS size),h.push (.cells cs e .aS 0 fz))
 |false=>none
def gx(P:Program)(h:J)(sT:TypeId)(xT:Option TypeId)(s x:I):Option (I×J):=
 match P.underlying sT,nZ P xT with
 |some (.slice e),true=>
  match P.info? e,ea P e with
  |some i,some z=>
   match hW h i.size x with
   |none=>none
   |some (n,cs)=>
    match s with
    |.bf=>match n with
     |0=>some (.bf,h)
     |_=>j_ h e i.bytes i.size n z cs 0
    |.slice b off len (.exact cap)=>
     match Nat.ble (len+n) cap with
     |true=>match n with
      |0=>some (.slice b off len (.exact cap),h)
      |_=>match storeCells h b (off+len*i.size) cs with
       |some an=>some (.slice b off (len+n) (.exact cap),an)
       |none=>none
     |false=>match loadCells h b off (len*i.size) with
      |some old=>j_ h e i.bytes i.size (len+n) z (old++cs) 0
      |none=>none
    |.slice b off len (.aS fP)=>
     match Nat.beq fP i.size&&Nat.blt 0 fP with
     |true=>match n with
      |0=>some (s,h)
      |_=>match h.get b with
       |some (.cells old el .aS bk ae)=>
        match Nat.ble (off+(len+n)*fP) old.length with
        |true=>match storeCells h b (off+len*fP) cs with
         |some an=>some (.slice b off (len+n) (.aS fP),an)
         |none=>none
        |false=>match Nat.ble ae (off+len*fP)&&Nat.beq el e,loadCells h b off (len*fP) with
         |true,some o=>j_ (h.set b none) e i.bytes i.size (len+n) z (o++cs) (ae-off)
         |_,_=>none
       |_=>none
     |false=>none
    |_=>none
  |_,_=>none
 |_,_=>none
def xW(P:Program)(h:J)(xX:TypeId)(d s:I):Option (I×J):=
 match P.underlying xX with
 |some (.slice e)=>match dd P e with
  |some sz=>match hW h sz s with
   |some (n,cs)=>match d with
    |.bf=>some (.int .i64 0,h)
    |.slice b off len _=>
     let m:=Nat.min n len
     if m=0 then some (.int .i64 0,h) else
     match takeN (m*sz) cs with
     |some bX=>match storeCells h b off bX with
      |some an=>some (.int .i64 (Int.ofNat m),an)
      |none=>none
     |none=>none
    |_=>none
   |none=>none
  |none=>none
 |_=>none
def n0(P:Program)(h:J)(t:TypeId)(x:I):Option (I×J):=
 match P.underlying t,x with
 |some (.map _ _),.gU=>some (.aP [],h)
 |some (.slice _),.bf=>some (.aP [],h)
 |some (.map _ _),.map r=>match h.get r with
  |some (.map _ c)=>some (.aP [],h.set r (some (.map [] c)))
  |_=>none
 |some (.slice e),.slice b off n _=>if n=0 then some (.aP [],h) else
  match ea P e with
  |some z=>match storeCells h b off (eD n z.cells) with
   |some an=>some (.aP [],an)
   |none=>none
  |none=>none
 |_,_=>none
def ir:I->I->Option I
 |.int k x,.int ff y=>if k=ff then some (.int k (if bD y x then y else x)) else none
 |_,_=>none
def vd:I->I->Option I
 |.int k x,.int ff y=>if k=ff then some (.int k (if bD x y then y else x)) else none
 |_,_=>none
def hM(f:I->I->Option I):I->List I->Option I
 |x,[]=>some x
 |x,y::l=>match f x y with
  |some z=>hM f z l
  |none=>none
def my:List I->Option (List UInt8)
 |[]=>some []
 |.int .u8 (.ofNat n)::l=>match Nat.blt n 256,my l with
  |true,some r=>some (UInt8.ofNat n::r)
  |_,_=>none
 |_=>none
def oS(P:Program)(h:J)(pT:TypeId)(p n:I):Option (I×J):=
 match p,fo n with
 |.bm,some 0=>some (.str [],h)
 |.ptr b off,some n=>if n=0 then some (.str [],h) else
  match P.underlying pT,h.get b with
  |some (.pointer u),some (.cells cs el k bk ae)=>
   if P.underlyingId el=P.underlyingId u&&dd P el=some 1&&Nat.ble n 281474976710656&&decide (k≠ .ro) then
    (match takeN n (ho off cs) with
    |some r=>match my r with
     |some bs=>some (.str bs,h.set b (some (.cells cs el .fz bk ae)))
     |none=>none
    |none=>none) else none
  |_,_=>none
 |_,_=>none
def jq(P:Program)(cX:TypeId)(k:I):Bool:=
 match P.underlying cX with
 |some (.int _)=>match k with
  |.int _ _=>true
  |_=>false
 |some .string=>match k with
  |.str _=>true
  |_=>false
 |some .bool=>match k with
  |.bool _=>true
  |_=>false
 |_=>false
def xY(P:Program)(cs:List I):List Field->Bool
 |[]=>true
 |f::cc=>match kx P f.type cs f.offset with
  |some a=>match jq P f.type a with
   |true=>xY P cs cc
   |false=>false
  |none=>false
def xZ(P:Program)(e:TypeId)(sz:Nat)(cs:List I):Nat->Nat->Bool
 |0,_=>true
 |n+1,i=>match kx P e cs (i*sz) with
  |some a=>match jq P e a with
   |true=>xZ P e sz cs n (i+1)
   |false=>false
  |none=>false
def n1(P:Program)(cX:TypeId)(k:I):Bool:=
 match k with
 |.agg cs=>match P.underlying cX with
  |some (.struct cc)=>xY P cs cc.toList
  |some (.array n e)=>match dd P e with
   |some sz=>xZ P e sz cs n 0
   |none=>false
  |_=>false
 |k=>jq P cX k
def oT:I->I->Option Bool
 |.int j a,.int k b=>if j=k then some (a0 a b) else none
 |.str a,.str b=>some (dU a b)
 |.bool a,.bool b=>some (a==b)
 |_,_=>none
def ve:List I->List I->Bool
 |[],[]=>true
 |a::l,b::m=>match oT a b with
  |some true=>ve l m
  |_=>false
 |_,_=>false
def pZ(k x:I):Bool:=match k,x with
 |.agg a,.agg b=>ve a b
 |.agg _,_=>false
 |_,_=>true
def vf(P:Program)(h:J)(cX:TypeId)(k x:I):Option Bool:=match k with
 |.agg cs=>hz P h 8 cX (.agg cs) x
 |k=>oT k x
def kb(P:Program)(h:J)(cX:TypeId)(k:I):List fm->Nat->Option (Option (Nat×I))
 |[],_=>some none
 |e::es,i=>match vf P h cX k e.key with
  |some true=>some (some (i,e.val))
  |some false=>kb P h cX k es (i+1)
  |none=>none
def vg(i:Nat)(es:List fm):I:=match nth i es with
 |some e=>e.key
 |none=>.bad
def rz(v:I)(key:I):Nat->List fm->List fm
 |_,[]=>[]
 |0,e::es=>⟨key,v,e.born⟩::es
 |n+1,e::es=>e::rz v key n es
def vh(P:Program)(hN:TypeId)(ok:Bool):Option (Nat×I)->Option I
 |some (_,v)=>some (if ok then .aP [v,.bool true] else v)
 |none=>match ea P hN with
  |some z=>some (if ok then .aP [z,.bool false] else z)
  |none=>none
def x0(P:Program)(h:J)(t:TypeId)(m k:I)(ok:Bool):Option I:=
 match P.underlying t with
 |some (.map cX hN)=>match n1 P cX k with
  |true=>match m with
   |.gU=>vh P hN ok none
   |.map r=>match h.get r with
    |some (.map es _)=>match kb P h cX k es 0 with
     |some r=>vh P hN ok r
     |none=>none
    |_=>none
   |_=>none
  |false=>none
 |_=>none
def ts(P:Program)(h:J)(t:TypeId)(m k v:I):Option J:=
 match P.underlying t with
 |some (.map cX _)=>match n1 P cX k with
  |true=>match m with
   |.map r=>match h.get r with
    |some (.map es clock)=>match kb P h cX k es 0 with
     |some (some (i,_))=>match pZ k (vg i es) with
      |true=>some (h.set r (some (.map (rz v k i es) clock)))
      |false=>none
     |some none=>some (h.set r (some (.map (es++[⟨k,v,clock⟩]) (clock+1))))
     |none=>none
    |_=>none
   |_=>none
  |false=>none
 |_=>none
def x1(P:Program)(h:J)(t:TypeId)(m k:I):Option (I×J):=
 match P.underlying t with
 |some (.map cX hN)=>match n1 P cX k with
  |true=>match m with
   |.map r=>match h.get r with
    |some (.map es clock)=>match kb P h cX k es 0 with
     |some (some (i,v))=>match nth i es with
      |some e=>match pZ k e.key with
       |true=>some (.aP [v,.int .i64 (Int.ofNat e.born)],h.set r (some (.map (rz v k i es) clock)))
       |false=>none
      |none=>none
     |some none=>match ea P hN with
      |some z=>some (.aP [z,.int .i64 (Int.ofNat clock)],h.set r (some (.map (es++[⟨k,z,clock⟩]) (clock+1))))
      |none=>none
     |none=>none
    |_=>none
   |_=>none
  |false=>none
 |_=>none
def vi(born:Int):List fm->Nat->Option (Nat×fm)
 |[],_=>none
 |e::es,i=>match a0 (Int.ofNat e.born) born with
  |true=>some (i,e)
  |false=>vi born es (i+1)
def x2(h:J)(m s v:I):Option J:=
 match m,s with
 |.map r,.int _ born=>match h.get r with
  |some (.map es clock)=>match vi born es 0 with
   |some (i,e)=>some (h.set r (some (.map (rz v e.key i es) clock)))
   |none=>none
  |_=>none
 |_,_=>none
def AH:Nat->List fm->List fm
 |_,[]=>[]
 |0,_::es=>es
 |n+1,e::es=>e::AH n es
def x3(P:Program)(h:J)(t:TypeId)(m k:I):Option (I×J):=
 match P.underlying t with
 |some (.map cX _)=>match n1 P cX k with
  |true=>match m with
   |.gU=>some (.aP [],h)
   |.map r=>match h.get r with
    |some (.map es clock)=>match kb P h cX k es 0 with
     |some (some (i,_))=>some (.aP [],h.set r (some (.map (AH i es) clock)))
     |some none=>some (.aP [],h.set r (some (.map es clock)))
     |none=>none
    |_=>none
   |_=>none
  |false=>none
 |_=>none
def AI(s:List UInt8):Nat×Nat:=Utf8.decode ⟨s.toArray⟩ 0
def x4(h:J)(it:I)(isStr:Bool):Option (I×J):=
 match it with
 |.ptr r 0=>match h.get r,isStr with
  |some (.nY s pos),true=>
   (match s with
   |[]=>some (.aP [.bool false],h)
   |s=>let(c,w):=AI s
    some (.aP [.bool true,.int .i64 (Int.ofNat pos),.int .i32 (Int.ofNat c)],h.set r (some (.nY (ho w s) (pos+w)))))
  |some (.mapIter none _ _ _),false=>some (.aP [.bool false],h)
  |_,_=>none
 |_=>none
def vj(b:Nat):List fm->Option fm
 |[]=>none
 |e::l=>match Nat.beq e.born b with
  |true=>some e
  |false=>vj b l
def x5:List Nat->Option Nat
 |[]=>none
 |[b]=>some b
 |_::b::l=>x5 (b::l)
def x6(h:J)(it:I):Option I:=
 match it with
 |.ptr r 0=>match h.get r with
  |some (.mapIter (some m) _ seen last)=>match h.get m,x5 seen with
   |some (.map es clock),some b=>match Nat.beq clock last with
    |true=>match vj b es with
     |some e=>some (.aP [e.key,e.val])
     |none=>none
    |false=>none
   |_,_=>none
  |_=>none
 |_=>none
end aB
namespace aB
open Go
inductive bE where
 |none|act (v:I)|done (v:I)
inductive bw where
 |nrm|exit (id:Nat)|ret|goto (l:Nat)|b1 (v:I)
inductive iu where
 |ok (e:bw) (r:aR) (d:List bP) (q:bE) (h:J)
 |fail (ia:String)
inductive aF where
 |fn (f:Nat)|b8 (l:Nat)
inductive Acc where
 |env (j:Nat)|reg (p:hy)|val (v:I)
def dF(m:Nat)(env:List I)(r:aR):Acc->I
 |.env j=>(nth (m-1-j) env).getD .bad
 |.reg p=>r.get p
 |.val v=>v
def hO(t:Nat):List (Nat×Acc)->Option Acc
 |[]=>none
 |(u,a)::l=>match Nat.beq t u with
  |true=>some a
  |false=>hO t l
def cL(P:Program)(need:Nat)(loc:List (Nat×Acc)):Operand->Acc
 |.tmp t=>match hO t loc with
  |some a=>a
  |none=>match Nat.testBit need t with
   |true=>.reg (gw t)
   |false=>.val .bad
 |.const v=>.val (nc v)
 |.global g=>match Nat.blt g P.globals.size with
  |true=>.val (.ptr g 0)
  |false=>.val .bad
 |.func f=>.val (.fn f [] [])
def rA(f:I)(args:List I)(h:J):e5:=
 match f with
 |.fn g first aK=>.call g (first++args++aK) h
 |.b8 l=>.b8 l args h
 |_=>.fail "callVal"
def fp(h:J)(ia:String):Option I->e5
 |some v=>.val v h
 |none=>.fail ia
def ky(ia:String):Option (I×J)->e5
 |some (v,h)=>.val v h
 |none=>.fail ia
def oU(ia:String):Option J->e5
 |some h=>.val (.aP []) h
 |none=>.fail ia
def kindName:I->String
 |.bad=> "bad" |.bool _=> "bool" |.int _ n=> "int" ++toString n|.str s=> "str" ++toString s.length|.bm=> "nilP" |.ptr b o=> "ptr" ++toString b++ "+" ++toString o|.bf=> "nilS" |.slice b o n c=> "slice" ++toString b++ "+" ++toString o++ "," ++toString n++(match c with|.exact k=> "x" ++toString k|.aS _=> "o" |.dead=> "d")
 |.gU=> "nilM" |.map _=> "map" |.e4=> "nilF" |.fn f _ _=> "fn" ++toString f|.b8 _=> "yld" |.ew=> "nilI" |.iface t _=> "iface" ++toString t|.agg l=> "agg" ++toString l.length|.aP l=> "tup" ++toString l.length
def x7(P:Program)(t:TypeId)(name:String):Option Nat:=
 match P.info? t with
 |some i=>match i.methods.find? (·.name==name) with
  |some m=>match m.path.isEmpty,m.func,P.underlying t with
   |true,some (f,true),some (.pointer _)=>some f
   |true,some (f,false),some (.pointer _)=>none
   |true,some (f,false),some _=>some f
   |_,_,_=>none
  |none=>none
 |none=>none
def hP(P:Program)(b:Builtin)(ats:Array TypeId)(vs:List I)(h:J):e5:=
 match b with
 |.recover=>.ry
 |.min=>match vs with
  |x::l=>fp h "min" (hM ir x l)
  |[]=>.fail "min"
 |.max=>match vs with
  |x::l=>fp h "max" (hM vd x l)
  |[]=>.fail "max"
 |b=>match ats[0]?,vs with
  |some t,[x]=>match b with
   |.len=>fp h ("len " ++kindName x) (bO P h t x)
   |.cap=>fp h "cap" (xV P t x)
   |.clear=>ky "clear" (n0 P h t x)
   |.unsafeSliceData=>match x with
    |.bf=>.val .bm h
    |.slice b off n (.exact c)=>if c=0 then .fail "SliceData" else .val (.ptr b off) h
    |.slice b off n (.aS _)=>if n=0 then .fail "SliceData" else .val (.ptr b off) h
    |_=>.fail "SliceData"
   |_=>.fail "builtin"
  |some t,[x,y]=>match b with
   |.append=>ky ("append " ++kindName x++ " " ++kindName y) (gx P h t ats[1]? x y)
   |.copy=>ky "copy" (xW P h t x y)
   |.delete=>ky "delete" (x3 P h t x y)
   |.unsafeString=>ky "usString" (oS P h t x y)
   |_=>.fail "builtin"
  |_,_=>.fail "builtin"
def et(P:Program)(src dst:TypeId)(x:I)(h:J):e5:=
 match P.underlying src,P.underlying dst,x with
 |some (.int _),some (.int k),.int _ n=>.val (.int k (k.wrap n)) h
 |some (.int _),some .string,.int _ n=>.val (.str (Utf8.encode n).data.toList) h
 |some .string,some .string,.str s=>.val (.str s) h
 |some .string,some (.slice e),.str s=>match P.underlying e with
  |some (.int .u8)=>.val (.slice h.n 0 s.length (.aS 1)) (h.push (.cells (cP s) e .aS 0 0))
  |_=>.fail "convert to runes"
 |some (.slice e),some .string,v=>match P.underlying e,v with
  |some (.int .u8),.bf=>.val (.str []) h
  |some (.int .u8),.slice b off n .dead=>if n=0 then .val (.str []) h else .fail "convert dead"
  |some (.int .u8),.slice b off n _=>match loadCells h b off n with
   |some cs=>match my cs with
    |some bs=>.val (.str bs) h
    |none=>.fail "convert bytes"
   |none=>.fail "convert bytes"
  |_,_=>.fail "convert slice to string"
 |some (.pointer u),some .unsafePointer,.ptr b off=>match h.get b,dd P u with
  |some (.cells cs _ _ _ _),some (_+1)=>if Nat.blt off cs.length then .val (.ptr b off) h else .fail "convert pointer"
  |_,_=>.fail "convert pointer"
 |some .unsafePointer,some (.pointer u),.ptr b off=>match h.get b,dd P u with
  |some (.cells cs el .own _ _),some (_+1)=>if liesAt P P.depth el (cs.length/P.cellsOf el) off u 1 then .val (.ptr b off) h else .fail "convert from pointer"
  |_,_=>.fail "convert from pointer"
 |_,_,v=>.fail ("convert " ++kindName v)
def cA(P:Program)(o:Oper)(g:Operand->I)(h:J):e5:=
 match o.op with
 |.move x|.assign x=>.val (g x) h
 |.pick c a b=>match g c with
  |.bool true=>.val (g a) h
  |.bool false=>.val (g b) h
  |_=>.fail "pick"
 |.alloc e=>match ea P e with
  |some z=>match newRow h e z.cells with
   |some (b,an)=>.val (.ptr b 0) an
   |none=>.fail "alloc"
  |none=>.fail "alloc"
 |.box e x=>match newRow h e (g x).cells with
  |some (b,an)=>.val (.ptr b 0) an
  |none=>.fail "box"
 |.build t parts=>match ea P t with
  |some z=>match P.underlying t with
   |some (.struct cc)=>match cc.toList.all (λf=>(dd P f.type).isSome),iO (λi=>(cc[i]?).map λf=>(f.offset,P.cellsOf f.type)) z.cells (parts.toList.map λp=>(p.1,g p.2)) with
    |true,some cs=>.val (.agg cs) h
    |_,_=>.fail "build"
   |some (.array _ e)=>match dd P e with
    |some sz=>match iO (λi=>some (i*sz,sz)) z.cells (parts.toList.map λp=>(p.1,g p.2)) with
     |some cs=>.val (.agg cs) h
     |none=>.fail "build array"
    |none=>.fail "build"
   |_=>.fail "build"
  |none=>.fail "build"
 |.buildSlice t len parts=>match P.underlying t with
  |some (.slice e)=>match dd P e,ea P e with
   |some sz,some z=>match Nat.ble (len*sz) 16777216&&Nat.beq z.cells.length sz,iO (λi=>some (i*sz,sz)) (if len*sz=0 then[] else eD len z.cells) (parts.toList.map λp=>(p.1,g p.2)) with
    |true,some cs=>match newRow h e cs with
     |some (b,an)=>.val (.slice b 0 len (.exact len)) an
     |none=>.fail "buildSlice"
    |_,_=>.fail "buildSlice"
   |_,_=>.fail "buildSlice"
  |_=>.fail "buildSlice"
 |.insert t m k v=>oU "insert" (ts P h t (g m) (g k) (g v))
 |.load t a=>match g a with
  |.ptr b off=>match nd P t,dd P t with
   |some true,some n=>match loadCells h b off n with
    |some cs=>.val (.agg cs) h
    |none=>.fail ("load agg " ++toString b++ "+" ++toString off)
   |some false,_=>fp h ("load " ++toString b++ "+" ++toString off) (au h b off)
   |_,_=>.fail "load"
  |v=>.fail ("load of " ++kindName v)
 |.store t a v=>match g a with
  |.ptr b off=>match g v,dd P t with
   |.bad,_=>.fail "store bad"
   |v,some n=>match Nat.beq v.cells.length n with
    |true=>oU "store" (storeCells h b off v.cells)
    |false=>.fail "store size"
   |_,none=>.fail "store"
  |_=>.fail "store"
 |.ready _|.waits _=>.fail "ready"
 |.nilCheck x=>match g x with
  |.ptr b o=>.val (.ptr b o) h
  |.slice b o n c=>.val (.slice b o n c) h
  |.fn f a b=>.val (.fn f a b) h
  |.iface t v=>.val (.iface t v) h
  |_=>.fail "nilCheck"
 |.binOp op t x y _=>fp h ("binOp " ++kindName (g x)++ " " ++kindName (g y)) (ej P h op t x y (g x) (g y))
 |.unOp op _ x=>match op,g x with
  |.not,.bool b=>.val (.bool (!b)) h
  |.neg,.int k n=>.val (.int k (k.wrap (0-n))) h
  |.xor,.int k n=>fp h "unOp" (arith .xor k (if k.signed then-1 else k.max) n)
  |_,_=>.fail "unOp"
 |.convert src dst x=>et P src dst (g x) h
 |.sliceToArrayPointer .. =>.fail "sliceToArrayPointer"
 |.makeInterface t x=>match P.underlying t with
  |some (.interface _)=>.fail "makeInterface"
  |some _=>.val (.iface t (g x)) h
  |none=>.fail "makeInterface"
 |.makeFunc fn first aK=>match fn with
  |.func f=>.val (.fn f (first.toList.map g) (aK.toList.map g)) h
  |_=>.fail "makeFunc"
 |.makeMap t r=>match r with
  |none=>.val (.map h.n) (h.push (.map [] 0))
  |some x=>match P.underlying t,g x with
   |some (.map _ _),.int _ _=>.val (.map h.n) (h.push (.map [] 0))
   |_,_=>.fail "makeMap"
 |.makeChan .. =>.fail "makeChan"
 |.makeSlice t l c=>match P.underlying t,fo (g l),fo (g c) with
  |some (.slice e),some l,some c=>match P.info? e,ea P e with
   |some i,some z=>if l<=c&&Nat.ble (c*(i.bytes+1)) 1099511627776&&Nat.beq z.cells.length i.size then(match newRow h e (if c*i.size=0 then[] else eD c z.cells) with
    |some (b,an)=>.val (.slice b 0 l (.exact c)) an
    |none=>.fail "makeSlice") else .fail "makeSlice bounds"
   |_,_=>.fail "makeSlice"
  |_,_,_=>.fail "makeSlice"
 |.slice t x bk ae mx=>fp h ("slice " ++kindName (g x)++((bk.map λo=>kindName (g o)).getD "-")++((ae.map λo=>kindName (g o)).getD "-")) (e1 P h t (g x) (bk.map g) (ae.map g) (mx.map g))
 |.fieldAddr s x f=>match P.underlying s,g x with
  |some (.struct cc),.ptr b off=>match cc[f]? with
   |some fd=>match dd P fd.type with
    |some 0=>.fail "fieldAddr 0"
    |some _=>.val (.ptr b (off+fd.offset)) h
    |none=>.fail "fieldAddr"
   |none=>.fail "fieldAddr"
  |_,v=>.fail ("fieldAddr " ++kindName v)
 |.field t x f=>match P.underlying t,g x with
  |some (.struct cc),.agg cs=>match cc[f]? with
   |some fd=>fp h "field" (kx P fd.type cs fd.offset)
   |none=>.fail "field"
  |_,_=>.fail "field"
 |.indexAddr t x i=>match P.underlying t,g x,fo (g i) with
  |some (.array n e),.ptr b off,some i=>match dd P e with
   |some sz=>if i<n then .val (.ptr b (off+i*sz)) h else .fail "indexAddr range"
   |none=>.fail "indexAddr"
  |some (.slice e),.slice b off n c,some i=>match dd P e with
   |some sz=>if i<n then .val (.ptr b (off+i*sz)) h else .fail "indexAddr range"
   |none=>.fail "indexAddr"
  |_,v,w=>.fail ("indexAddr " ++kindName v++kindName (g i))
 |.index t x i=>match P.underlying t,g x,fo (g i) with
  |some (.array n e),.agg cs,some i=>match dd P e with
   |some sz=>if i<n then fp h "index" (kx P e cs (i*sz)) else .fail "index range"
   |none=>.fail "index"
  |some .string,.str s,some i=>match nth i s with
   |some b=>.val (.int .u8 (Int.ofNat b.toNat)) h
   |none=>.fail "index str range"
  |_,_,_=>.fail "index"
 |.lookup t x i ok=>fp h "lookup" (x0 P h t (g x) (g i) ok)
 |.mapUpdate t m k v=>oU "mapUpdate" (ts P h t (g m) (g k) (g v))
 |.mapEntry t m k=>ky "mapEntry" (x1 P h t (g m) (g k))
 |.entryStore t m s v=>oU "entryStore" (x2 h (g m) (g s) (g v))
 |.range t x=>match P.underlying t,g x with
  |some .string,.str s=>.val (.ptr h.n 0) (h.push (.nY s 0))
  |some (.map _ _),.gU=>.val (.ptr h.n 0) (h.push (.mapIter none 0 [] 0))
  |some (.map _ _),.map m=>match h.get m with
   |some (.map _ c)=>.val (.ptr h.n 0) (h.push (.mapIter (some m) c [] c))
   |_=>.fail "range"
  |_,_=>.fail "range"
 |.next it isStr=>ky "next" (x4 h (g it) isStr)
 |.entry it=>fp h "entry" (x6 h (g it))
 |.typeAssert x xT as ok=>match P.underlying as,g x with
  |some (.interface _),_=>.fail "typeAssert to an interface"
  |some _,.ew=>if ok then(match ea P as with|some z=>.val (.aP [z,.bool false]) h|none=>.fail "typeAssert") else .fail "typeAssert nil"
  |some _,.iface t v=>if t=as then .val (if ok then .aP [v,.bool true] else v) h else
   if ok then(match ea P as with|some z=>.val (.aP [z,.bool false]) h|none=>.fail "typeAssert") else .fail "typeAssert fails"
  |_,_=>.fail "typeAssert"
 |.extract t i=>match g t with
  |.aP vs=>fp h "extract" (nth i vs)
  |_=>.fail "extract"
 |.call c=>match c.callee with
  |.value f=>rA (g f) (c.args.toList.map g) h
  |.invoke r name=>match g r with
   |.iface t v=>match x7 P t name with
    |some f=>.call f (v::c.args.toList.map g) h
    |none=>.fail ("invoke " ++name)
   |_=>.fail ("invoke " ++name)
  |.builtin b=>hP P b c.argTypes (c.args.toList.map g) h
 |.go _=>.fail "go"
 |.defer c=>match c.callee with
  |.value f=>match g f with
   |.fn k first aK=>.jn (.call k (first++c.args.toList.map g++aK))
   |_=>.fail "defer"
  |_=>.fail "defer"
 |.panic x=>match g x with
  |.iface t v=>.b1 (.iface t v) h
  |_=>.fail "panic"
 |.send .. |.recv .. |.select .. =>.fail "comm"
structure Step where
 guard:Option (Acc×Bool)
 o:Oper
 loc:List (Nat×Acc)
 m:Nat
structure ET where
 steps:List Step
 loc:List (Nat×Acc)
def jr(P:Program)(need:Nat)(ops:Array Oper)(loc:List (Nat×Acc))(o:Oper):Option (Acc×Bool):=
 match o.guard with
 |none=>none
 |some (j,b)=>match(ops[j]?).bind (·.dst) with
  |some t=>some (cL P need loc (.tmp t),b)
  |none=>some (.val .bad,b)
def aliasOf(o:Oper):Option (Nat×Operand):=
 match o.guard,o.dst,o.op with
 |none,some t,.move x=>some (t,x)
 |none,some t,.assign x=>some (t,x)
 |_,_,_=>none
def k3(o:Oper)(m:Nat)(loc:List (Nat×Acc)):List (Nat×Acc):=
 match o.dst with
 |some t=>(t,.env m)::loc
 |none=>loc
def tt(P:Program)(need:Nat)(ops:Array Oper):List Oper->List (Nat×Acc)->List Step->Nat->ET
 |[],loc,st,_=>⟨st.reverse,loc⟩
 |o::rest,loc,st,m=>
  match aliasOf o with
  |some (t,x)=>tt P need ops rest ((t,cL P need loc x)::loc) st m
  |none=>tt P need ops rest (k3 o m loc) (⟨jr P need ops loc o,o,loc,m⟩::st) (m+1)
def n2(P:Program)(need:Nat)(ops:Array Oper):ET:=tt P need ops ops.toList [] [] 0
inductive lL where
 |ok (env:List I) (d:List bP) (q:bE) (h:J)
 |b1 (v:I) (d:List bP) (q:bE) (h:J)
 |fail (ia:String)
inductive vk where
 |ok (v:I) (d:List bP) (q:bE) (h:J)
 |b1 (v:I) (d:List bP) (q:bE) (h:J)
 |fail (ia:String)
def eb:Option (I×Bool)->Option Bool
 |none=>some true
 |some (.bool c,b)=>some (c==b)
 |some (.aP [],_)=>some false
 |_=>none
def vl(d:List bP)(q:bE):ao->vk
 |.ret v h=>.ok v d q h
 |.b1 v h=>.b1 v d q h
 |.fail w=>.fail w
def dG(P:Program)(inR:Bool)(call:aF->List I->J->ao)(gd:Option (I×Bool))(o:Oper)(g:Operand->I)(d:List bP)(q:bE)(h:J):vk:=
 match eb gd with
 |none=>.fail ("guard " ++o.pos)
 |some false=>.ok (.aP []) d q h
 |some true=>
  match cA P o g h with
  |.val v an=>.ok v d q an
  |.b1 v an=>.b1 v d q an
  |.call f args an=>vl d q (call (.fn f) args an)
  |.b8 l args an=>vl d q (call (.b8 l) args an)
  |.jn x=>if inR then .fail "defer in a round" else .ok (.aP []) (x::d) q h
  |.ry=>if inR then .fail "recover in a round" else match q with
   |.none=>.ok .ew d .none h
   |.done v=>.ok .ew d (.done v) h
   |.act v=>.ok v d (.done v) h
  |.fail w=>.fail (w++ " at " ++o.pos)
def js(P:Program)(need:Nat)(inR:Bool)(call:aF->List I->J->ao)(r:aR):List Step->List I->List bP->bE->J->lL
 |[],env,d,q,h=>.ok env d q h
 |s::rest,env,d,q,h=>
  match dG P inR call (match s.guard with|none=>none|some (a,b)=>some (dF s.m env r a,b)) s.o (λx=>dF s.m env r (cL P need s.loc x)) d q h with
  |.ok v bx bG an=>js P need inR call r rest (v::env) bx bG an
  |.b1 v bx bG an=>.b1 v bx bG an
  |.fail w=>.fail w
def ch.beq:ch->ch->Bool
 |.exact a,.exact b=>Nat.beq a b
 |.aS a,.aS b=>Nat.beq a b
 |.dead,.dead=>true
 |_,_=>false
mutual
def I.beq:I->I->Bool
 |.bool a,.bool b=>a==b
 |.int j a,.int k b=>decide (j=k)&&a0 a b
 |.str a,.str b=>dU a b
 |.bm,.bm=>true
 |.ptr a i,.ptr b j=>Nat.beq a b&&Nat.beq i j
 |.bf,.bf=>true
 |.slice a i n c,.slice b j m d=>Nat.beq a b&&Nat.beq i j&&Nat.beq n m&&c.beq d
 |.gU,.gU=>true
 |.map a,.map b=>Nat.beq a b
 |.e4,.e4=>true
 |.fn f a b,.fn g c d=>Nat.beq f g&&I.jt a c&&I.jt b d
 |.b8 a,.b8 b=>Nat.beq a b
 |.ew,.ew=>true
 |.iface t v,.iface u w=>Nat.beq t u&&I.beq v w
 |.agg a,.agg b=>I.jt a b
 |.aP a,.aP b=>I.jt a b
 |_,_=>false
def I.jt:List I->List I->Bool
 |[],[]=>true
 |a::as,b::bs=>I.beq a b&&I.jt as bs
 |_,_=>false
end
inductive Lr where
 |pure|alloc|dS
def kindOf(P:Program):Op->Lr
 |.move _|.assign _|.pick .. |.build .. |.load .. |.nilCheck _|.binOp .. |.unOp .. |.makeInterface .. |.makeFunc .. |.slice .. |.fieldAddr .. |.field .. |.indexAddr .. |.index .. |.lookup .. |.typeAssert .. |.extract .. =>.pure
 |.convert _ d _=>match P.underlying d with
  |some (.slice _)=>.dS
  |_=>.pure
 |.call c=>match c.callee with
  |.builtin .len|.builtin .cap|.builtin .min|.builtin .max|.builtin .unsafeSliceData=>.pure
  |_=>.dS
 |.alloc _|.box .. |.buildSlice .. |.makeSlice .. =>.alloc
 |.makeMap _ none=>.alloc
 |_=>.dS
def ju(P:Program)(o:Op)(g:Operand->I)(b:Nat):Option (I×cp):=
 match o with
 |.alloc e=>match ea P e with
  |some z=>match z.cells.all I.b0 with
   |true=>some (.ptr b 0,.cells z.cells e .own 0 0)
   |false=>none
  |none=>none
 |.box e x=>match(g x).cells.all I.b0 with
  |true=>some (.ptr b 0,.cells (g x).cells e .own 0 0)
  |false=>none
 |.buildSlice t len parts=>match P.underlying t with
  |some (.slice e)=>match dd P e,ea P e with
   |some sz,some z=>match Nat.ble (len*sz) 16777216&&Nat.beq z.cells.length sz,iO (λi=>some (i*sz,sz)) (if len*sz=0 then[] else eD len z.cells) (parts.toList.map λp=>(p.1,g p.2)) with
    |true,some cs=>match cs.all I.b0 with
     |true=>some (.slice b 0 len (.exact len),.cells cs e .own 0 0)
     |false=>none
    |_,_=>none
   |_,_=>none
  |_=>none
 |.makeSlice t l c=>match P.underlying t,fo (g l),fo (g c) with
  |some (.slice e),some l,some c=>match P.info? e,ea P e with
   |some i,some z=>match decide (l<=c)&&Nat.ble (c*(i.bytes+1)) 1099511627776&&Nat.beq z.cells.length i.size,(if c*i.size=0 then[] else eD c z.cells) with
    |true,cs=>match cs.all I.b0 with
     |true=>some (.slice b 0 l (.exact c),.cells cs e .own 0 0)
     |false=>none
    |_,_=>none
   |_,_=>none
  |_,_,_=>none
 |.makeMap _ none=>some (.map b,.map [] 0)
 |_=>none
structure DStep where
 i:Nat
 o:Oper
 eE:Nat
 loc:List (Nat×Acc)
def vm(fQ:List Nat)(n:Nat)(o:Oper):Nat:=
 o.after.foldl (λs e=>match Region.binds .any e with
  |true=>s|||1<<<e.on|||(nth (n-1-e.on) fQ).getD 0
  |false=>s) 0
def eN:List Oper->Nat->List (Nat×Acc)->List Nat->List DStep
 |[],_,_,_=>[]
 |o::l,n,loc,fQ=>
  let m:=vm fQ n o
  ⟨n,o,m,loc⟩::eN l (n+1) (k3 o n loc) (m::fQ)
def hX:List Oper->Nat->List (Nat×Acc)->List (Nat×Acc)
 |[],_,loc=>loc
 |o::l,n,loc=>hX l (n+1) (k3 o n loc)
def gi(P:Program)(need:Nat)(ops:Array Oper)(r:aR)(n:Nat)(env:List I)(s:DStep):Option (I×Bool):=
 match jr P need ops s.loc s.o with
 |none=>none
 |some (a,b)=>some (dF n env r a,b)
inductive AJ where
 |ok (env:List I) (d:List bP) (q:bE) (h:J) (a1:List (Nat×Nat×J))
 |b1 (v:I) (env:List I) (d:List bP) (q:bE) (h:J) (a1:List (Nat×Nat×J))
 |fail (ia:String)
def fG(P:Program)(need:Nat)(inR:Bool)(call:aF->List I->J->ao)(ops:Array Oper)(r:aR)(cE:Nat):List DStep->List I->List bP->bE->J->List (Nat×Nat×J)->AJ
 |[],env,d,q,h,a1=>.ok env d q h a1
 |s::rest,env,d,q,h,a1=>
  let gd:=gi P need ops r s.i env s
  let g:=λx=>dF s.i env r (cL P need s.loc x)
  match kindOf P s.o.op with
  |.alloc=>match eb gd with
   |none=>.fail ("guard " ++s.o.pos)
   |some false=>fG P need inR call ops r cE rest (.aP []::env) d q h a1
   |some true=>match ju P s.o.op g (cE+s.i) with
    |some (v,o)=>fG P need inR call ops r cE rest (v::env) d q (h.set (cE+s.i) (some o)) a1
    |none=>.fail ("alloc " ++s.o.pos)
  |.pure=>match dG P inR call gd s.o g d q h with
   |.ok v _ _ _=>fG P need inR call ops r cE rest (v::env) d q h a1
   |.b1 _ _ _ _=>.fail ("pure " ++s.o.pos)
   |.fail w=>.fail w
  |.dS=>
   match(match a1 with|[]=>true|(e,_,_)::_=>Nat.testBit s.eE e) with
   |false=>.fail ("order " ++s.o.pos)
   |true=>match dG P inR call gd s.o g d q h with
    |.ok v bx bG an=>fG P need inR call ops r cE rest (v::env) bx bG an ((s.i,s.eE,h)::a1)
    |.b1 v bx bG an=>match rest.all (λbC=>Nat.testBit bC.eE s.i) with
     |true=>.b1 v env bx bG an ((s.i,s.eE,h)::a1)
     |false=>.fail ("panic " ++s.o.pos)
    |.fail w=>.fail w
def k4(P:Program)(need:Nat)(ops:Array Oper)(r:aR)(n:Nat)(env:List I)(s:DStep)(v:I)(h:J):Bool:=
 match eb (gi P need ops r n env s) with
 |none=>false
 |some false=>true
 |some true=>match cA P s.o (λx=>dF n env r (cL P need s.loc x)) h with
  |.val v' _=>I.beq v' v
  |_=>false
def kd(P:Program)(need:Nat)(ops:Array Oper)(r:aR)(n:Nat)(env:List I)(s:DStep)(v:I):Option Nat->J->List (Nat×Nat×J)->Bool
 |dI,h,a1=>
  (match(match dI with|none=>false|some e=>Nat.testBit s.eE e)||(match a1 with|[]=>false|(_,m,_)::_=>Nat.testBit m s.i) with
   |true=>true
   |false=>k4 P need ops r n env s v h)&&
  (match a1 with
   |[]=>true
   |(e,_,an)::rest=>kd P need ops r n env s v (some e) an rest)
def kz(P:Program)(need:Nat)(ops:Array Oper)(r:aR)(n:Nat)(env:List I)(last:Option Nat)(h:J)(a1:List (Nat×Nat×J)):List DStep->Bool
 |[]=>true
 |s::rest=>(match Nat.blt s.i n,kindOf P s.o.op with
   |true,.pure=>kd P need ops r n env s ((nth (n-1-s.i) env).getD .bad) last h a1
   |_,_=>true)&&kz P need ops r n env last h a1 rest
def rB(P:Program)(need:Nat)(inR:Bool)(call:aF->List I->J->ao)(ops:Array Oper)(r:aR)(d:List bP)(q:bE)(h:J):lL:=
 let steps:=eN ops.toList 0 [] []
 match fG P need inR call ops r h.n steps [] d q ⟨h.t,h.n+ops.size⟩ [] with
 |.ok env bx bG an a1=>match kz P need ops r env.length env none an a1 steps with
  |true=>.ok env bx bG an
  |false=>.fail "orders"
 |.b1 v env bx bG an a1=>match a1 with
  |(e,_,h0)::rest=>match kz P need ops r env.length env (some e) h0 rest steps with
   |true=>.b1 v bx bG an
   |false=>.fail "orders"
  |[]=>.fail "orders"
 |.fail w=>.fail w
def oV(need:Nat)(m:Nat)(env:List I)(g8:aR):List (Nat×Acc)->aR->aR
 |[],r=>r
 |(t,a)::l,r=>
  let r':=oV need m env g8 l r
  match Nat.testBit need t with
  |true=>r'.set (gw t) (dF m env g8 a)
  |false=>r'
def tu:List (Nat×Acc)->aR->aR
 |[],r=>r
 |(t,_)::l,r=>(tu l r).set (gw t) .bad
def oW(need:Nat)(r:aR)(loc:List (Nat×Acc)):lL->iu
 |.ok env d q h=>.ok .nrm (oV need env.length env r loc r) d q h
 |.b1 v d q h=>.ok (.b1 v) (tu loc r) d q h
 |.fail w=>.fail w
def oX(x:iu)(f:aR->List bP->bE->J->iu):iu:=
 match x with
 |.ok .nrm r d q h=>f r d q h
 |x=>x
def n3(f:aR->List bP->bE->J->iu):Nat->aR->List bP->bE->J->iu
 |0,_,_,_,_=>.fail "loop fuel"
 |n+1,r,d,q,h=>oX (f r d q h) (n3 f n)
def nf(rd:Option Nat)(n:Nat):Nat:=match rd with
 |none=>n+1
 |some _=>n
def vn(need:Nat)(rd:Option Nat)(r:aR)(ps:List Nat)(as cj:Code)(d:List bP)(h:J):Option (List bP×J):=
 match rd with
 |none=>some (.collected h.n::d,(h.push (.defrd (some []))).push (.loop .ready none need r ps as cj h.n))
 |some ng=>match h.get ng with
  |some (.loop _ _ _ _ _ _ _ dR)=>some (d,h.push (.loop .ready none need r ps as cj dR))
  |_=>none
def kA(l:Nat)(r:aR)(d:List bP)(q:bE):ao->iu
 |.ret _ h=>match h.get l with
  |some (.loop st fw gy rg ps as cj dR)=>match st with
   |.busy=>.fail "rangeFunc: busy"
   |_=>match fw with
    |none=>.ok .nrm r d q (h.set l (some (.loop .exhausted fw gy rg ps as cj dR)))
    |some .ret=>.ok .ret r d q (h.set l (some (.loop .exhausted fw gy rg ps as cj dR)))
    |some (.exit id)=>.ok (.exit id) r d q (h.set l (some (.loop .exhausted fw gy rg ps as cj dR)))
    |_=>.fail "rangeFunc: goto"
  |_=>.fail "rangeFunc: loop gone"
 |.b1 v h=>.ok (.b1 v) r d q h
 |.fail w=>.fail w
def ds(P:Program)(need:Nat)(rd:Option Nat)(call:aF->List I->J->ao):Code->aR->List bP->bE->J->iu
 |.skip,r,d,q,h=>.ok .nrm r d q h
 |.region id ops draw,r,d,q,h=>
  match draw with
  |false=>
   let pl:=n2 P need ops
   oW need r pl.loc (js P need rd.isSome call r pl.steps [] d q h)
  |true=>oW need r (hX ops.toList 0 []) (rB P need rd.isSome call ops r d q h)
 |.seq a b,r,d,q,h=>oX (ds P need rd call a r d q h) (ds P need rd call b)
 |.cond c a b,r,d,q,h=>match dF 0 [] r (cL P need [] c) with
  |.bool true=>ds P need rd call a r d q h
  |.bool false=>ds P need rd call b r d q h
  |_=>.fail "cond"
 |.block id b,r,d,q,h=>match ds P need rd call b r d q h with
  |.ok (.exit i) r' bx bG an=>if i=id then .ok .nrm r' bx bG an else .ok (.exit i) r' bx bG an
  |x=>x
 |.loop b,r,d,q,h=>n3 (ds P need rd call b) 100000 r d q h
 |.exit id,r,d,q,h=>.ok (.exit id) r d q h
 |.ret,r,d,q,h=>.ok .ret r d q h
 |.label _,r,d,q,h=>.ok .nrm r d q h
 |.goto l,r,d,q,h=>.fail "goto"
 |.scope b,r,d,q,h=>ds P need rd call b r d q h
 |.rangeFunc f params assign body,r,d,q,h=>
  match vn need rd r params.toList assign body d h with
  |none=>.fail "rangeFunc"
  |some (bx,aa)=>
   match rA (dF 0 [] r (cL P need [] f)) [.b8 (nf rd h.n)] aa with
   |.call g args ad=>kA (nf rd h.n) r bx q (call (.fn g) args ad)
   |.b8 bB args ad=>kA (nf rd h.n) r bx q (call (.b8 bB) args ad)
   |_=>.fail "rangeFunc: no function"
 |.refuse w,_,_,_,_=>.fail ("refuse " ++w)
def bit(t:Nat):Nat:=1<<<t
def EU:List Oper->Nat->Nat->Nat
 |[],_,acc=>acc
 |o::l,written,acc=>
  let acc:=o.op.operands.foldl (λa x=>match x with
   |.tmp t=>if Nat.testBit written t then a else a|||bit t
   |_=>a) acc
  EU l (match o.dst with|some t=>written|||bit t|none=>written) acc
def EV:Operand->Nat
 |.tmp t=>bit t
 |_=>0
def p0:Code->Nat->Nat
 |.region _ ops _,acc=>EU ops.toList 0 acc
 |.seq a b,acc=>p0 b (p0 a acc)
 |.cond c a b,acc=>p0 b (p0 a (acc|||EV c))
 |.block _ b,acc|.loop b,acc|.scope b,acc=>p0 b acc
 |.rangeFunc f ps a b,acc=>p0 b (p0 a (acc|||EV f|||ps.foldl (λa t=>a|||bit t) 0))
 |_,acc=>acc
def dM(fn:Func):Nat:=
 let rs:=fn.results.foldl (λa r=>match r with|.tmp t=>a|||bit t|.cell t _=>a|||bit t) 0
 match fn.body with
 |some c=>p0 c rs
 |none=>rs
def nh:Nat->List I->aR->aR
 |_,[],r=>r
 |i,v::l,r=>nh (i+1) l (r.set (gw i) v)
def p1(P:Program)(need:Nat)(r:aR)(h:J)(x:ResultVar):Option I:=
 match x with
 |.tmp t=>match Nat.testBit need t with
  |true=>some (r.get (gw t))
  |false=>none
 |.cell t ty=>match Nat.testBit need t with
  |true=>match r.get (gw t),nd P ty,dd P ty with
   |.ptr b off,some true,some n=>(match loadCells h b off n with|some cs=>some (.agg cs)|none=>none)
   |.ptr b off,some false,_=>au h b off
   |_,_,_=>none
  |false=>none
def mz(f:ResultVar->Option I):List ResultVar->Option (List I)
 |[]=>some []
 |x::l=>match f x,mz f l with
  |some v,some vs=>some (v::vs)
  |_,_=>none
def oY(P:Program)(need:Nat)(fn:Func)(r:aR)(h:J):Option I:=
 match mz (p1 P need r h) fn.results.toList with
 |some [v]=>some v
 |some vs=>some (.aP vs)
 |none=>none
def ni(c:Nat):List UInt8->Nat->Int
 |[],_=>-1
 |b::l,i=>match Nat.beq b.toNat c with
  |true=>Int.ofNat i
  |false=>ni c l (i+1)
def tv(P:Program)(fn:Func)(name:String)(args:List I)(h:J):Option (I×J):=
 match args with
 |[.int .i64 (.ofNat n)]=>if name= "internal/bytealg.MakeNoZero" then
    (match fn.resultTypes[0]? with
    |some t=>match P.underlying t with
     |some (.slice e)=>match Nat.ble n 1099511627776 with
      |true=>some (.slice h.n 0 n (.aS 1),h.push (.cells (List.replicate n .bad) e .aS 0 0))
      |false=>none
     |_=>none
    |none=>none) else none
 |[x]=>if name= "internal/abi.NoEscape" then some (x,h) else
  if name= "maps.clone" then(match x with
   |.iface t (.map r)=>match h.get r with
    |some (.map es c)=>some (.iface t (.map h.n),h.push (.map es c))
    |_=>none
   |_=>none) else none
 |[.str s,.int .u8 (.ofNat c)]=>if name= "internal/bytealg.IndexByteString" then
    (match Nat.blt c 256 with
    |true=>some (.int .i64 (ni c s 0),h)
    |false=>none) else none
 |_=>none
def tw:Option I->bE
 |some v=>.act v
 |none=>.none
def vo(q:bE)(ec:Option I):Option I:=match q with
 |.done _=>none
 |_=>ec
def lM(P:Program)(call:aF->List I->J->ao)(fn:Func)(args:List I)(q:bE)(h:J):iu:=
 match fn.body with
 |some c=>match Nat.ble args.length fn.ntmps with
  |true=>ds P (dM fn) none call c (nh 0 args .leaf) [] q h
  |false=>.fail "too many arguments"
 |none=>.fail "no body"
def EW(P:Program)(fn:Func)(ec:Option I):iu->Option (Option I×J)
 |.ok e r d q h=>match(match e with|.nrm=>true|.ret=>true|_=>false),d,oY P (dM fn) fn r h with
  |true,[],some _=>some (vo q ec,h)
  |_,_,_=>none
 |.fail _=>none
def jv(P:Program)(call:aF->List I->J->ao)(need:Nat)(fn:Func)(r:aR):Nat->Option I->List bP->J->ao
 |0,_,_,_=>.fail "defers"
 |k+1,ec,aW,h=>match aW with
  |[]=>match ec with
   |none=>match oY P need fn r h with
    |some v=>.ret v h
    |none=>.fail "results"
   |some v=>.b1 v h
  |.collected b::aW=>match h.get b with
   |some (.defrd (some cs))=>jv P call need fn r k ec (cs++aW) (h.set b (some (.defrd none)))
   |_=>.fail "collected"
  |.call g args::aW=>
   match P.funcs[g]? with
   |some fV=>match EW P fV ec (lM P call fV args (tw ec) h) with
    |some (Ls,an)=>jv P call need fn r k Ls aW an
    |none=>.fail "deferred call"
   |none=>.fail "deferred"
def lN(P:Program)(call:aF->List I->J->ao)(fn:Func):iu->ao
 |.ok .nrm r d _ h=>jv P call (dM fn) fn r 100 none d h
 |.ok .ret r d _ h=>jv P call (dM fn) fn r 100 none d h
 |.ok (.b1 v) r d _ h=>jv P call (dM fn) fn r 100 (some v) d h
 |.ok _ _ _ _ _=>.fail "exit out of a function"
 |.fail w=>.fail (w++ " < " ++fn.name)
def p2(P:Program)(call:aF->List I->J->ao)(f:Nat)(args:List I)(h:J):ao:=
 match P.funcs[f]? with
 |none=>.fail "no function"
 |some fn=>
  match fn.body with
  |none=>match tv P fn fn.name args h with
   |some (v,an)=>.ret v an
   |none=>.fail ("extern " ++fn.name)
  |some _=>lN P call fn (lM P call fn args .none h)
def rC:List Nat->List I->aR->Option aR
 |[],[],r=>some r
 |t::bJ,v::vs,r=>rC bJ vs (r.set (gw t) v)
 |_,_,_=>none
def tx(l:Nat):iu->ao
 |.ok e _ [] _ h=>match h.get l with
  |some (.loop .busy _ gy rg ps as cj dR)=>match e with
   |.nrm=>.ret (.bool true) (h.set l (some (.loop .ready none gy rg ps as cj dR)))
   |.ret=>.ret (.bool false) (h.set l (some (.loop .done (some .ret) gy rg ps as cj dR)))
   |.exit id=>.ret (.bool false) (h.set l (some (.loop .done (some (.exit id)) gy rg ps as cj dR)))
   |.b1 v=>.b1 v h
   |.goto _=>.fail "goto in a round"
  |_=>.fail "round"
 |.ok .. =>.fail "round defers"
 |.fail w=>.fail (w++ " < round")
def x8(P:Program)(call:aF->List I->J->ao)(l need:Nat)(cj:Code):iu->ao
 |.ok .nrm r [] _ h=>match h.get l with
  |some (.loop .ready fw gy rg ps x9 x_ dR)=>tx l (ds P need (some l) call cj r [] .none (h.set l (some (.loop .busy fw gy rg ps x9 x_ dR))))
  |_=>.fail "round"
 |.ok .. =>.fail "round assign"
 |.fail w=>.fail w
def n4(P:Program)(call:aF->List I->J->ao)(l:Nat)(args:List I)(h:J):ao:=
 match h.get l with
 |some (.loop .ready _ need rg ps as cj _)=>
  match rC ps args rg with
  |none=>.fail "yield: arguments"
  |some g8=>x8 P call l need cj (ds P need (some l) call as g8 [] .none h)
 |_=>.fail "yield"
def fq(P:Program)(intr:Nat->List I->J->Option (I×J)):Nat->aF->List I->J->ao
 |0,_,_,_=>.fail "depth"
 |n+1,.fn f,args,h=>match intr f args h with
  |some (v,an)=>.ret v an
  |none=>p2 P (fq P intr n) f args h
 |n+1,.b8 l,args,h=>n4 P (fq P intr n) l args h
def iv(n:Nat):J:=⟨.leaf,n⟩
def k5(ops:Array Oper)(o:Oper):List Nat:=
 o.dst.toList++(o.op.operands.toList.filterMap λ|.tmp t=>some t|_=>none)++(match o.guard with|some (j,_)=>((ops[j]?).bind (·.dst)).toList|none=>[])
def nj(o:Oper)(i:Nat):Bool:=o.after.toList.all λe=>!Region.binds .any e||Nat.blt e.on i
def ya(ops:Array Oper)(s:DStep):List DStep->Bool
 |[]=>true
 |bC::l=>(match(match s.o.dst with|some t=>(k5 ops bC.o).contains t|none=>false)||(match bC.o.dst with|some t=>(k5 ops s.o).contains t|none=>false) with
   |true=>Nat.testBit bC.eE s.i
   |false=>true)&&ya ops s l
def oZ(ops:Array Oper):List DStep->Bool
 |[]=>true
 |s::l=>nj s.o s.i&&ya ops s l&&oZ ops l
def hY(cd:Nat):Code->Bool
 |.region _ ops draw=>ops.toList.all (λo=>match o.dst with|some t=>Nat.blt t cd|none=>true)&&(!draw||oZ ops (eN ops.toList 0 [] []))
 |.seq a b=>hY cd a&&hY cd b
 |.cond _ a b=>hY cd a&&hY cd b
 |.block _ b|.loop b|.scope b=>hY cd b
 |.rangeFunc _ ps a b=>ps.toList.all (λt=>Nat.blt t cd)&&hY cd a&&hY cd b
 |_=>true
end aB
namespace aB
open Go
def hy.num:hy->Nat
 |.here=>0
 |.l p=>2*p.num+1
 |.r p=>2*p.num+2
theorem EX:∀(f n:Nat),n<=f->(vb f n).num=n
 |0,n,h=>by
  obtain rfl:n=0:=by omega
  rfl
 |f+1,0,_=>rfl
 |f+1,m+1,h=>by
  have e:Nat.mod m 2=m %2:=rfl
  have ay:Nat.div m 2=m/2:=rfl
  have bd:=EX f (m/2) (by omega)
  simp only[vb,e,ay]
  rcases Nat.mod_two_eq_zero_or_one m with h0|aa
  · simp only[h0,hy.num,bd];omega
  · simp only[aa,hy.num,bd];omega
theorem yb(n:Nat):(gw n).num=n:=EX n n (Nat.le_refl n)
theorem Lt{m n:Nat}(h:gw m=gw n):m=n:=by rw[<-yb m,<-yb n,h]
theorem aR.p3(l:aR)(v:I)(r:aR):aR.AE l v r=.node l v r:=by cases l<;>rfl
theorem aR.p4(l:aR)(v:I)(r:aR):aR.AF l v r=.node l v r:=by cases r<;>rfl
theorem aR.mA(p:hy):aR.get p .leaf=.bad:=by cases p<;>rfl
theorem aR.vp:∀(p:hy) (v:I) (t:aR),(aR.set p v t).get p=v
 |.here,v,.leaf=>rfl
 |.here,v,.node .. =>rfl
 |.l p,v,.leaf=>by simp only[aR.set,aR.p3,aR.get];exact vp p v _
 |.l p,v,.node l _ _=>by simp only[aR.set,aR.p3,aR.get];exact vp p v _
 |.r p,v,.leaf=>by simp only[aR.set,aR.p4,aR.get];exact vp p v _
 |.r p,v,.node .. =>by simp only[aR.set,aR.p4,aR.get];exact vp p v _
theorem aR.vq:∀(p q:hy) (v:I) (t:aR),p≠q->(aR.set q v t).get p=t.get p
 |.here,.here,_,_,h=>absurd rfl h
 |.here,.l q,v,.leaf,_=>by simp[aR.set,aR.p3,aR.get]
 |.here,.l q,v,.node ..,_=>by simp[aR.set,aR.p3,aR.get]
 |.here,.r q,v,.leaf,_=>by simp[aR.set,aR.p4,aR.get]
 |.here,.r q,v,.node ..,_=>by simp[aR.set,aR.p4,aR.get]
 |.l p,.here,v,.leaf,_=>by simp[aR.set,aR.get,aR.mA]
 |.l p,.here,v,.node ..,_=>by simp[aR.set,aR.get]
 |.r p,.here,v,.leaf,_=>by simp[aR.set,aR.get,aR.mA]
 |.r p,.here,v,.node ..,_=>by simp[aR.set,aR.get]
 |.l p,.l q,v,.leaf,h=>by
  simp only[aR.set,aR.p3,aR.get]
  rw[vq p q v _ (λe=>h (by rw[e])),aR.mA]
 |.l p,.l q,v,.node ..,h=>by
  simp only[aR.set,aR.p3,aR.get]
  exact vq p q v _ (λe=>h (by rw[e]))
 |.r p,.r q,v,.leaf,h=>by
  simp only[aR.set,aR.p4,aR.get]
  rw[vq p q v _ (λe=>h (by rw[e])),aR.mA]
 |.r p,.r q,v,.node ..,h=>by
  simp only[aR.set,aR.p4,aR.get]
  exact vq p q v _ (λe=>h (by rw[e]))
 |.l p,.r q,v,.leaf,_=>by simp[aR.set,aR.p4,aR.get,aR.mA]
 |.l p,.r q,v,.node ..,_=>by simp[aR.set,aR.p4,aR.get]
 |.r p,.l q,v,.leaf,_=>by simp[aR.set,aR.p3,aR.get,aR.mA]
 |.r p,.l q,v,.node ..,_=>by simp[aR.set,aR.p3,aR.get]
theorem aR.b2(t u:Nat)(v:I)(r:aR):(aR.set (gw u) v r).get (gw t)=if t=u then v else r.get (gw t):=by
 by_cases h:t=u
 · subst h;simp[aR.vp]
 · rw[if_neg h];exact aR.vq _ _ _ _ (λe=>h (Lt e))
theorem ez.mA(n:Nat):ez.get .leaf n=none:=rfl
theorem ez.b2:∀(f:Nat) (t:ez) (n m:Nat) (x:Option cp),n<f->(ez.j9 f t n x).get m=if m=n then x else t.get m
 |0,_,n,_,_,h=>by omega
 |f+1,.leaf,0,m,x,_=>by
  cases m with
  |zero=>simp[ez.j9,ez.get]
  |succ m=>
   simp only[ez.j9,ez.get]
   have e:Nat.mod m 2=m %2:=rfl
   rcases Nat.mod_two_eq_zero_or_one m with h|h<;>simp[e,h]
 |f+1,.node l v r,0,m,x,_=>by
  cases m with
  |zero=>simp[ez.j9,ez.get]
  |succ m=>simp[ez.j9,ez.get]
 |f+1,.leaf,n+1,m,x,aI=>by
  have e (k:Nat):Nat.mod k 2=k %2:=rfl
  have ay (k:Nat):Nat.div k 2=k/2:=rfl
  have bd:=λj=>b2 f .leaf (n/2) j x (by omega)
  rcases Nat.mod_two_eq_zero_or_one n with h|h
  · simp only[ez.j9,e,h,ay]
    cases m with
    |zero=>simp[ez.get]
    |succ m=>
     simp only[ez.get,e,ay]
     rcases Nat.mod_two_eq_zero_or_one m with g|g
     · simp only[g,bd,ez.mA]
       have:(m/2=n/2)<->(m+1=n+1):=by omega
       simp only[this]
     · simp only[g,ez.mA]
       rw[if_neg (by omega)]
  · simp only[ez.j9,e,h,ay]
    cases m with
    |zero=>simp[ez.get]
    |succ m=>
     simp only[ez.get,e,ay]
     rcases Nat.mod_two_eq_zero_or_one m with g|g
     · simp only[g,ez.mA]
       rw[if_neg (by omega)]
     · simp only[g,bd,ez.mA]
       have:(m/2=n/2)<->(m+1=n+1):=by omega
       simp only[this]
 |f+1,.node l v r,n+1,m,x,aI=>by
  have e (k:Nat):Nat.mod k 2=k %2:=rfl
  have ay (k:Nat):Nat.div k 2=k/2:=rfl
  have Lu:=λj=>b2 f l (n/2) j x (by omega)
  have yc:=λj=>b2 f r (n/2) j x (by omega)
  rcases Nat.mod_two_eq_zero_or_one n with h|h
  · simp only[ez.j9,e,h,ay]
    cases m with
    |zero=>simp[ez.get]
    |succ m=>
     simp only[ez.get,e,ay]
     rcases Nat.mod_two_eq_zero_or_one m with g|g
     · simp only[g,Lu]
       have:(m/2=n/2)<->(m+1=n+1):=by omega
       simp only[this]
     · simp only[g]
       rw[if_neg (by omega)]
  · simp only[ez.j9,e,h,ay]
    cases m with
    |zero=>simp[ez.get]
    |succ m=>
     simp only[ez.get,e,ay]
     rcases Nat.mod_two_eq_zero_or_one m with g|g
     · simp only[g]
       rw[if_neg (by omega)]
     · simp only[g,yc]
       have:(m/2=n/2)<->(m+1=n+1):=by omega
       simp only[this]
theorem J.b2(h:J)(b c:Nat)(o:Option cp):(h.set b o).get c=if c=b then o else h.get c:=
 ez.b2 _ _ _ _ _ (Nat.lt_succ_self b)
theorem J.eB(h:J)(c:Nat)(o:cp):(h.push o).get c=if c=h.n then some o else h.get c:=
 ez.b2 _ _ _ _ _ (Nat.lt_succ_self _)
@[simp] theorem J.tz (h:J) (b:Nat) (o:Option cp):(h.set b o).n=h.n:=rfl
@[simp] theorem J.mB (h:J) (o:cp):(h.push o).n=h.n+1:=rfl
structure dY where
 bb:Nat
 base:Nat
 size:Nat
abbrev bg:=Nat->Option dY
def eF(μ aM:bg):Prop:=∀b i,μ b=some i->aM b=some i
theorem eF.refl(μ:bg):eF μ μ:=λ_ _ h=>h
theorem eF.trans{μ aM EY:bg}(h:eF μ aM)(an:eF aM EY):eF μ EY:=λb i e=>an b i (h b i e)
def AK(i:dY)(off len:Nat):ch->Value->Prop
 |.exact c,v=>v=.slice (some ⟨i.bb,i.base+off,none⟩) len c
 |.aS fP,v=>∃c,v=.slice (some ⟨i.bb,i.base+off,none⟩) len c/\len<=c/\off+c*fP=i.size
 |.dead,v=>len=0/\∃a c,v=.slice (some a) 0 c
mutual
def a9(μ:bg):I->Value->Prop
 |.bad,_=>True
 |.bool b,v=>v=.bool b
 |.int k n,v=>v=.int k n
 |.str s,v=>∃t,v=.string t/\t.data.toList=s
 |.bm,v=>v=.pointer none
 |.ptr b off,v=>∃i,μ b=some i/\v=.pointer (some ⟨i.bb,i.base+off,none⟩)
 |.bf,v=>v=.slice none 0 0
 |.slice b off len cap,v=>∃i,μ b=some i/\AK i off len cap v
 |.gU,v=>v=.map none
 |.map r,v=>∃i,μ r=some i/\v=.map (some i.bb)
 |.e4,v=>v=.nilFunc
 |.fn f first aK,v=>∃cc cs,v=.func (.func f) ⟨cc⟩ ⟨cs⟩/\b4 μ first cc/\b4 μ aK cs
 |.b8 l,v=>∃i,μ l=some i/\v=.func (.yield i.bb) ⟨[]⟩ ⟨[]⟩
 |.ew,v=>v=.nilIface
 |.iface t x,v=>∃y,v=.iface t y/\a9 μ x y
 |.agg cs,v=>∃l,v=.agg ⟨l⟩/\b4 μ cs l
 |.aP vs,v=>∃l,v=.tuple ⟨l⟩/\b4 μ vs l
def b4(μ:bg):List I->List Value->Prop
 |[],l=>l=[]
 |a::as,l=>∃v vs,l=v::vs/\a9 μ a v/\b4 μ as vs
end
mutual
theorem a9.mono{μ aM:bg}(hle:eF μ aM):∀(a:I) (v:Value),a9 μ a v->a9 aM a v
 |.bad,_,_=>trivial
 |.bool _,_,h=>h
 |.int _ _,_,h=>h
 |.str _,_,h=>h
 |.bm,_,h=>h
 |.ptr b off,_,⟨i,h,e⟩=>⟨i,hle _ _ h,e⟩
 |.bf,_,h=>h
 |.slice b off len cap,_,⟨i,h,e⟩=>⟨i,hle _ _ h,e⟩
 |.gU,_,h=>h
 |.map r,_,⟨i,h,e⟩=>⟨i,hle _ _ h,e⟩
 |.e4,_,h=>h
 |.fn f first aK,_,⟨cc,cs,e,aa,ad⟩=>⟨cc,cs,e,b4.mono hle _ _ aa,b4.mono hle _ _ ad⟩
 |.b8 l,_,⟨i,h,e⟩=>⟨i,hle _ _ h,e⟩
 |.ew,_,h=>h
 |.iface t x,_,⟨y,e,h⟩=>⟨y,e,a9.mono hle _ _ h⟩
 |.agg cs,_,⟨l,e,h⟩=>⟨l,e,b4.mono hle _ _ h⟩
 |.aP cs,_,⟨l,e,h⟩=>⟨l,e,b4.mono hle _ _ h⟩
theorem b4.mono{μ aM:bg}(hle:eF μ aM):∀(as:List I) (vs:List Value),b4 μ as vs->b4 aM as vs
 |[],_,h=>h
 |a::as,_,⟨v,vs,e,aa,ad⟩=>⟨v,vs,e,a9.mono hle _ _ aa,b4.mono hle _ _ ad⟩
end
mutual
theorem jw(μ:bg):∀v:Value,a9 μ (nc v) v
 |.bool b=>rfl
 |.int k n=>rfl
 |.string s=>⟨s,rfl,rfl⟩
 |.pointer none=>rfl
 |.pointer (some _)=>trivial
 |.slice none 0 0=>rfl
 |.slice none 0 (_+1)=>trivial
 |.slice none (_+1) _=>trivial
 |.slice (some _) _ _=>trivial
 |.map none=>rfl
 |.map (some _)=>trivial
 |.nilFunc=>rfl
 |.nilIface=>rfl
 |.agg ⟨cs⟩=>⟨cs,rfl,AL μ cs⟩
 |.tuple ⟨cs⟩=>⟨cs,rfl,AL μ cs⟩
 |.float _ _=>trivial
 |.complex _ _ _=>trivial
 |.chan _=>trivial
 |.func _ _ _=>trivial
 |.iface _ _=>trivial
theorem AL(μ:bg):∀vs:List Value,b4 μ (xU vs) vs
 |[]=>rfl
 |v::vs=>⟨v,vs,rfl,jw μ v,AL μ vs⟩
end
theorem b4.length{μ:bg}:∀{as:List I} {vs:List Value},b4 μ as vs->as.length=vs.length
 |[],_,h=>by cases h;rfl
 |a::as,_,⟨v,vs,e,_,ad⟩=>by subst e;simp[b4.length ad]
theorem b4.append{μ:bg}:∀{as bs:List I} {vs us:List Value},b4 μ as vs->b4 μ bs us->b4 μ (as++bs) (vs++us)
 |[],_,_,_,h,an=>by cases h;exact an
 |a::as,_,_,_,⟨v,vs,e,aa,ad⟩,an=>by subst e;exact⟨v,vs++_,rfl,aa,b4.append ad an⟩
theorem b4.get{μ:bg}:∀{as:List I} {vs:List Value} (_:b4 μ as vs) {j:Nat} {a:I},as[j]? =some a->∃v,vs[j]? =some v/\a9 μ a v
 |[],_,_,j,a,h=>by simp at h
 |x::as,_,⟨v,vs,e,aa,ad⟩,0,a,h=>by
  subst e;simp at h;subst h;exact⟨v,rfl,aa⟩
 |x::as,_,⟨v,vs,e,aa,ad⟩,j+1,a,h=>by
  subst e;simp at h;simpa using b4.get ad h
theorem b4.vr{μ:bg}:∀{as:List I} {vs:List Value},as.length=vs.length->(∀(j:Nat) (a:I),as[j]? =some a->∃v,vs[j]? =some v/\a9 μ a v)->b4 μ as vs
 |[],[],_,_=>rfl
 |[],_::_,h,_=>by simp at h
 |_::_,[],h,_=>by simp at h
 |a::as,v::vs,h,aj=>by
  refine⟨v,vs,rfl,?_,b4.vr (by simpa using h) λj x ab=>?_⟩
  · obtain⟨u,hu,r⟩:=aj 0 a rfl
    simp at hu;subst hu;exact r
  · simpa using aj (j+1) x (by simpa using ab)
theorem b4.map{μ:bg}{rD:Type}(g:rD->I)(ck:rD->Value)(h:∀x,a9 μ (g x) (ck x)):∀l:List rD,b4 μ (l.map g) (l.map ck)
 |[]=>rfl
 |x::l=>⟨_,_,rfl,h x,b4.map g ck h l⟩
theorem a9.cells{μ:bg}{a:I}{v:Value}(h:a9 μ a v)(af:a≠ .bad):b4 μ a.cells v.cells.toList:=by
 cases a with
 |bad=>exact absurd rfl af
 |agg cs=>obtain⟨l,rfl,aq⟩:=h;exact aq
 |aP vs=>obtain⟨l,rfl,aq⟩:=h;exact⟨_,_,rfl,⟨l,rfl,aq⟩,rfl⟩
 |bool b=>cases h;exact⟨_,_,rfl,rfl,rfl⟩
 |int k n=>cases h;exact⟨_,_,rfl,rfl,rfl⟩
 |str s=>obtain⟨t,rfl,e⟩:=h;exact⟨_,_,rfl,⟨t,rfl,e⟩,rfl⟩
 |bm=>cases h;exact⟨_,_,rfl,rfl,rfl⟩
 |ptr b off=>obtain⟨i,e,rfl⟩:=h;exact⟨_,_,rfl,⟨i,e,rfl⟩,rfl⟩
 |bf=>cases h;exact⟨_,_,rfl,rfl,rfl⟩
 |slice b off len cap=>
  obtain⟨i,e,ag⟩:=h
  have:v.cells=#[v]:=by
   cases cap with
   |exact c=>cases ag;rfl
   |aS fP=>obtain⟨c,rfl,_⟩:=ag;rfl
   |dead=>obtain⟨_,a,c,rfl⟩:=ag;rfl
  rw[this];exact⟨_,_,rfl,⟨i,e,ag⟩,rfl⟩
 |gU=>cases h;exact⟨_,_,rfl,rfl,rfl⟩
 |map r=>obtain⟨i,e,rfl⟩:=h;exact⟨_,_,rfl,⟨i,e,rfl⟩,rfl⟩
 |e4=>cases h;exact⟨_,_,rfl,rfl,rfl⟩
 |fn f a b=>obtain⟨cc,cs,rfl,aa,ad⟩:=h;exact⟨_,_,rfl,⟨cc,cs,rfl,aa,ad⟩,rfl⟩
 |b8 l=>obtain⟨i,e,rfl⟩:=h;exact⟨_,_,rfl,⟨i,e,rfl⟩,rfl⟩
 |ew=>cases h;exact⟨_,_,rfl,rfl,rfl⟩
 |iface t x=>obtain⟨y,rfl,a2⟩:=h;exact⟨_,_,rfl,⟨y,rfl,a2⟩,rfl⟩
theorem a9.vt{μ:bg}{a:I}{v:Value}(h:a9 μ a v)(ag:a.b0=true):v.oneCell'=true:=by
 cases a with
 |bad=>simp[I.b0] at ag
 |agg cs=>simp[I.b0] at ag
 |aP vs=>simp[I.b0] at ag
 |bool b=>cases h;rfl
 |int k n=>cases h;rfl
 |str s=>obtain⟨t,rfl,e⟩:=h;rfl
 |bm=>cases h;rfl
 |ptr b off=>obtain⟨i,e,rfl⟩:=h;rfl
 |bf=>cases h;rfl
 |slice b off len cap=>
  obtain⟨i,e,ag⟩:=h
  cases cap with
  |exact c=>cases ag;rfl
  |aS fP=>obtain⟨c,rfl,_⟩:=ag;rfl
  |dead=>obtain⟨_,a,c,rfl⟩:=ag;rfl
 |gU=>cases h;rfl
 |map r=>obtain⟨i,e,rfl⟩:=h;rfl
 |e4=>cases h;rfl
 |fn f a b=>obtain⟨cc,cs,rfl,aa,ad⟩:=h;rfl
 |b8 l=>obtain⟨i,e,rfl⟩:=h;rfl
 |ew=>cases h;rfl
 |iface t x=>obtain⟨y,rfl,a2⟩:=h;rfl
def ib(need:Nat)(μ:bg)(r:aR)(b9:Array Value):Prop:=∀t,Nat.testBit need t=true->a9 μ (r.get (gw t)) (b9.getD t undef)
theorem ib.mono{need:Nat}{μ aM:bg}{r:aR}{b9:Array Value}(hle:eF μ aM)(h:ib need μ r b9):ib need aM r b9:=λt aU=>(h t aU).mono hle
inductive rE(μ:bg):bP->Deferred->Prop where
 |call (f:Nat) (args:List I) (cap vs:List Value) (h:b4 μ args (vs++cap)):rE μ (.call f args) {target:=.fn (.func f) ⟨cap⟩,args:=⟨vs⟩}
 |collected (r:Nat) (i:dY) (h:μ r=some i):rE μ (.collected r) {target:=.collected i.bb,args:=#[]}
theorem rE.mono{μ aM:bg}(hle:eF μ aM){a:bP}{d:Deferred}(h:rE μ a d):rE aM a d:=by
 cases h with
 |call f args cap vs h=>exact .call f args cap vs (h.mono hle)
 |collected r i h=>exact .collected r i (hle _ _ h)
def fW(μ:bg):List bP->List Deferred->Prop
 |[],l=>l=[]
 |a::as,l=>∃d aW,l=d::aW/\rE μ a d/\fW μ as aW
theorem fW.mono{μ aM:bg}(hle:eF μ aM):∀{as:List bP} {aW:List Deferred},fW μ as aW->fW aM as aW
 |[],_,h=>h
 |_::_,_,⟨d,aW,e,aa,ad⟩=>⟨d,aW,e,aa.mono hle,fW.mono hle ad⟩
theorem fW.append{μ:bg}:∀{as bs:List bP} {aW es:List Deferred},fW μ as aW->fW μ bs es->fW μ (as++bs) (aW++es)
 |[],_,_,_,h,an=>by cases h;exact an
 |_::_,_,_,_,⟨d,aW,e,aa,ad⟩,an=>by subst e;exact⟨d,aW++_,rfl,aa,fW.append ad an⟩
def tA(μ:bg)(e:fm)(m:MapEntry):Prop:=a9 μ e.key m.key/\a9 μ e.val m.val/\e.born=m.born
def fx(μ:bg):List fm->List MapEntry->Prop
 |[],l=>l=[]
 |e::es,l=>∃m ms,l=m::ms/\tA μ e m/\fx μ es ms
theorem tA.mono{μ aM:bg}(hle:eF μ aM){e:fm}{m:MapEntry}(h:tA μ e m):tA aM e m:=⟨h.1.mono hle,h.2.1.mono hle,h.2.2⟩
theorem fx.mono{μ aM:bg}(hle:eF μ aM):∀{es:List fm} {ms:List MapEntry},fx μ es ms->fx aM es ms
 |[],_,h=>h
 |_::_,_,⟨m,ms,e,aa,ad⟩=>⟨m,ms,e,aa.mono hle,fx.mono hle ad⟩
def yd(μ:bg)(cs:List I)(c:Array Value)(base:Nat):Prop:=∀(j:Nat) (v:I),cs[j]? =some v->∃u,c[base+j]? =some u/\a9 μ v u
def AM(k:ey)(cs:List I)(i:dY)(bk ae fg fh:Nat):Prop:=match k with
 |.own=>i.base=0/\i.size=cs.length/\fg=bk/\fh=ae
 |.aS=>cs.length<=i.size/\∀j,j<i.size->fg<=i.base+j->i.base+j<fh->bk<=j/\j<ae
 |.ro=>True
 |.fz=>True
def mC(μ:bg)(o:cp)(i:dY)(w:World):Prop:=match o with
 |.cells cs el k bk ae=>∃c fg fh,w.heap[i.bb]? =some (.cells c el (fg,fh))/\yd μ cs c i.base/\i.base+i.size=c.size/\AM k cs i bk ae fg fh
 |.map es clock=>∃ents,w.heap[i.bb]? =some (.map ⟨ents⟩ clock)/\fx μ es ents
 |.nY s pos=>i.base=0/\∃full,w.heap[i.bb]? =some (.stringIter full pos)/\full.data.toList.drop pos=s
 |.mapIter none since seen last=>i.base=0/\w.heap[i.bb]? =some (.mapIter none since ⟨seen⟩ last)
 |.mapIter (some m) since seen last=>i.base=0/\∃j,μ m=some j/\w.heap[i.bb]? =some (.mapIter (some j.bb) since ⟨seen⟩ last)
 |.loop st fw need lK params as cj dR=>∃b9 g9 fn,μ dR=some g9/\w.heap[i.bb]? =some (.loop {state:=st,pending:=fw,fn:=fn,tmps:=b9,params:=⟨params⟩,assign:=as,body:=cj,defers:=g9.bb})/\ib need μ lK b9/\hY b9.size as=true/\hY b9.size cj=true/\∀t∈params,t<b9.size
 |.defrd none=>w.heap[i.bb]? =some (.deferred none)
 |.defrd (some aW)=>∃l,w.heap[i.bb]? =some (.deferred (some l))/\fW μ aW l
 |.raw o=>i.base=0/\w.heap[i.bb]? =some o
theorem mC.mono{μ aM:bg}(hle:eF μ aM){o:cp}{i:dY}{w w':World}(hw:w'.heap[i.bb]? =w.heap[i.bb]?)(h:mC μ o i w):mC aM o i w':=by
 cases o with
 |cells cs el k bk ae=>
  obtain⟨c,fg,fh,aa,ad,aw⟩:=h
  exact⟨c,fg,fh,hw.trans aa,λj v e=>let⟨u,hu,r⟩:=ad j v e;⟨u,hu,r.mono hle⟩,aw⟩
 |map es clock=>obtain⟨ents,aa,ad⟩:=h;exact⟨ents,hw.trans aa,ad.mono hle⟩
 |nY s pos=>obtain⟨h0,full,aa,ad⟩:=h;exact⟨h0,full,hw.trans aa,ad⟩
 |mapIter m since seen last=>
  cases m with
  |none=>exact⟨h.1,hw.trans h.2⟩
  |some m=>obtain⟨h0,j,aa,ad⟩:=h;exact⟨h0,j,hle _ _ aa,hw.trans ad⟩
 |loop st fw fn lK params as cj dR=>obtain⟨b9,g9,AN,aa,ad,aw,aQ⟩:=h;exact⟨b9,g9,AN,hle _ _ aa,hw.trans ad,aw.mono hle,aQ⟩
 |defrd calls=>
  cases calls with
  |none=>exact hw.trans h
  |some aW=>obtain⟨l,aa,ad⟩:=h;exact⟨l,hw.trans aa,ad.mono hle⟩
 |raw o=>exact⟨h.1,hw.trans h.2⟩
def cp.mD:cp->Bool
 |.cells _ _ .ro _ _=>true
 |.raw _=>true
 |_=>false
structure bn(μ:bg)(H:J)(w:World):Prop where
 rel:∀b o i,H.get b=some o->μ b=some i->mC μ o i w
 inj:∀b c i j,H.get b≠none->(∃o,H.get c=some o/\o.mD=false)->μ b=some i->μ c=some j->i.bb=j.bb->b=c
 lt:∀b i,μ b=some i->b<H.n/\i.bb<w.heap.size
 bound:∀b,H.n<=b->H.get b=none
structure b5(μ:bg)(H:J)(w:World)(aM:bg)(aT:J)(w':World):Prop where
 le:eF μ aM
 size:w.heap.size<=w'.heap.size
 n:H.n<=aT.n
 live:∀b,b<H.n->aT.get b≠none->H.get b≠none
 idle:∀b,b<H.n->μ b=none->aT.get b=H.get b
 old:∀r,r<w.heap.size->(∀b i,H.get b≠none->μ b=some i->i.bb≠r)->w'.heap[r]? =w.heap[r]?
 new:∀b i,μ b=none->aM b=some i->H.n<=b/\(w.heap.size<=i.bb\/∃c o j,H.get c=some o/\o.mD=false/\μ c=some j/\j.bb=i.bb)
 ro:∀b o i,H.get b=some o->o.mD=true->μ b=some i->aT.get b=some o/\w'.heap[i.bb]? =w.heap[i.bb]?
 os:w'.os=w.os
 out:w'.output=w.output
 tape:w'.tape=w.tape
 drawn:w.drawn<=w'.drawn
theorem b5.refl(μ:bg)(H:J)(w:World):b5 μ H w μ H w where
 le:=eF.refl μ
 size:=Nat.le_refl _
 n:=Nat.le_refl _
 live:=λ_ _ h=>h
 idle:=λ_ _ _=>rfl
 old:=λ_ _ _=>rfl
 new:=λb i h an=>by rw[h] at an;cases an
 ro:=λ_ _ _ h _ _=>⟨h,rfl⟩
 os:=rfl
 out:=rfl
 tape:=rfl
 drawn:=Nat.le_refl _
theorem b5.trans{μ fR ye:bg}{H H1 aE:J}{w dw cT:World}(aj:bn μ H w)(k6:bn fR H1 dw)(h:b5 μ H w fR H1 dw)(an:b5 fR H1 dw ye aE cT):b5 μ H w ye aE cT where
 le:=h.le.trans an.le
 size:=Nat.le_trans h.size an.size
 n:=Nat.le_trans h.n an.n
 live:=λb af aq=>h.live b af (an.live b (Nat.lt_of_lt_of_le af h.n) aq)
 idle:=λb af hm=>by
  rw[<-h.idle b af hm]
  refine an.idle b (Nat.lt_of_lt_of_le af h.n) ?_
  cases aa:fR b with
  |none=>rfl
  |some i=>exact absurd (h.new b i hm aa).1 (Nat.not_le.2 af)
 old:=λr ai aI=>by
  rw[an.old r (Nat.lt_of_lt_of_le ai h.size),h.old r ai aI]
  intro b i aq hm he
  cases o0:μ b with
  |some j=>
   have:=h.le b j o0
   rw[hm] at this;cases this
   exact aI b i (h.live b (aj.lt b i o0).1 aq) o0 he
  |none=>
   obtain⟨_,ae|⟨c,o,j,ag,_,aG,jP⟩⟩:=h.new b i o0 hm
   · omega
   · exact aI c j (by rw[ag];simp) aG (jP.trans he)
 new:=λb i af ek=>by
  cases aa:fR b with
  |some j=>
   have:=an.le b j aa
   rw[ek] at this;cases this
   exact h.new b i af aa
  |none=>
   obtain⟨aI,ae|⟨c,o,j,ag,gV,aG,jP⟩⟩:=an.new b i aa ek
   · exact⟨Nat.le_trans h.n aI,.inl (Nat.le_trans h.size ae)⟩
   · refine⟨Nat.le_trans h.n aI,?_⟩
     cases h0:μ c with
     |some iP=>
      have:=h.le c iP h0
      rw[aG] at this;cases this
      have tB:H.get c≠none:=h.live c (aj.lt c j h0).1 (by rw[ag];simp)
      cases ak:H.get c with
      |none=>exact absurd ak tB
      |some nk=>
       cases yf:nk.mD with
       |false=>exact .inr ⟨c,nk,j,ak,yf,h0,jP⟩
       |true=>
        have:=(h.ro c nk j ak yf h0).1
        rw[ag] at this;cases this
        rw[gV] at yf;cases yf
     |none=>
      obtain⟨_,ae|⟨c',o',iP,n5,Lv,rF,Lw⟩⟩:=h.new c j h0 aG
      · exact .inl (jP▸ae)
      · exact .inr ⟨c',o',iP,n5,Lv,rF,Lw.trans jP⟩
 ro:=λb o i af ai ae=>by
  obtain⟨aa,ad⟩:=h.ro b o i af ai ae
  obtain⟨aw,aQ⟩:=an.ro b o i aa ai (h.le b i ae)
  exact⟨aw,aQ.trans ad⟩
 os:=an.os.trans h.os
 out:=an.out.trans h.out
 tape:=an.tape.trans h.tape
 drawn:=Nat.le_trans h.drawn an.drawn
theorem bn.of_heap{μ:bg}{H:J}{w w':World}(h:bn μ H w)(he:w'.heap=w.heap):bn μ H w' where
 rel:=λb o i af ae=>(h.rel b o i af ae).mono (eF.refl μ) (by rw[he])
 inj:=h.inj
 lt:=λb i ae=>by rw[he];exact h.lt b i ae
 bound:=h.bound
theorem b5.of_heap{μ:bg}{H:J}{w w':World}(he:w'.heap=w.heap)(a7:w'.os=w.os)(a_:w'.output=w.output)(aU:w'.tape=w.tape)(aA:w.drawn<=w'.drawn:=by first|exact Nat.le_refl _|exact Nat.le_succ _|assumption):b5 μ H w μ H w' where
 le:=eF.refl μ
 size:=by rw[he];exact Nat.le_refl _
 n:=Nat.le_refl _
 live:=λ_ _ h=>h
 idle:=λ_ _ _=>rfl
 old:=λ_ _ _=>by rw[he]
 new:=λb i h an=>by rw[h] at an;cases an
 ro:=λ_ _ _ h _ _=>⟨h,by rw[he]⟩
 os:=a7
 out:=a_
 tape:=aU
 drawn:=aA
def fH(μ:bg)(b:Nat)(i:dY):bg:=λc=>if c=b then some i else μ c
theorem fI(μ:bg)(b:Nat)(i:dY):fH μ b i b=some i:=by simp[fH]
theorem gK(μ:bg){b c:Nat}(i:dY)(h:c≠b):fH μ b i c=μ c:=by simp[fH,h]
theorem bn.fresh{μ:bg}{H:J}{w:World}(h:bn μ H w):μ H.n=none:=by
 cases e:μ H.n with
 |none=>rfl
 |some i=>exact absurd (h.lt _ _ e).1 (Nat.lt_irrefl _)
theorem bn.nm{μ:bg}{H:J}{w:World}(h:bn μ H w)(i:dY):eF μ (fH μ H.n i):=λb j e=>by
 rw[gK];exact e
 intro af;subst af;rw[h.fresh] at e;cases e
theorem bn.alloc{μ:bg}{H:J}{w:World}(h:bn μ H w)(o:cp)(x:Obj)(sz:Nat)
  (ai:mC (fH μ H.n ⟨w.heap.size,0,sz⟩) o ⟨w.heap.size,0,sz⟩ (w.alloc x)):
  bn (fH μ H.n ⟨w.heap.size,0,sz⟩) (H.push o) (w.alloc x)/\b5 μ H w (fH μ H.n ⟨w.heap.size,0,sz⟩) (H.push o) (w.alloc x):=by
 have hle:=h.nm ⟨w.heap.size,0,sz⟩
 have hold:∀r,r<w.heap.size->(w.alloc x).heap[r]? =w.heap[r]? :=λr ai=>by
  simp only[World.alloc,Array.getElem?_push];rw[if_neg (by omega)]
 constructor
 · refine⟨λb cN i af ae=>?_,λb c i j af ag ae aG e=>?_,λb i ae=>?_,λb af=>?_⟩
   · rw[J.eB] at af
     by_cases e:b=H.n
     · rw[if_pos e] at af;subst e;cases af
       rw[fI] at ae;cases ae
       exact ai
     · rw[if_neg e] at af;rw[gK _ _ e] at ae
       exact(h.rel b cN i af ae).mono hle (hold _ (h.lt b i ae).2)
   · by_cases ax:b=H.n
     · by_cases ay:c=H.n
       · rw[ax,ay]
       · subst ax;rw[fI] at ae;cases ae
         rw[gK _ _ ay] at aG
         have:=(h.lt c j aG).2
         simp only at e;omega
     · by_cases ay:c=H.n
       · subst ay;rw[fI] at aG;cases aG
         rw[gK _ _ ax] at ae
         have:=(h.lt b i ae).2
         simp only at e;omega
       · rw[gK _ _ ax] at ae;rw[gK _ _ ay] at aG
         rw[J.eB,if_neg ax] at af
         rw[J.eB,if_neg ay] at ag
         exact h.inj b c i j af ag ae aG e
   · by_cases e:b=H.n
     · subst e;rw[fI] at ae;cases ae;simp
     · rw[gK _ _ e] at ae
       have:=h.lt b i ae
       simp only[J.mB,World.size_alloc];omega
   · simp only[J.mB] at af
     rw[J.eB,if_neg (by omega)];exact h.bound b (by omega)
 · refine⟨hle,by simp,by simp,λb af aq=>?_,λb af _=>(by rw[J.eB,if_neg (by omega)]),λr ai _=>hold r ai,λb i af ek=>?_,λb cN i af _ ae=>?_,rfl,rfl,rfl,Nat.le_refl _⟩
   · rw[J.eB,if_neg (by omega)] at aq;exact aq
   · by_cases e:b=H.n
     · subst e;rw[fI] at ek;cases ek;exact⟨Nat.le_refl _,.inl (Nat.le_refl _)⟩
     · rw[gK _ _ e,af] at ek;cases ek
   · have:=h.lt b i ae
     rw[J.eB,if_neg (by omega)]
     exact⟨af,hold _ this.2⟩
theorem bn.update{μ:bg}{H:J}{w w':World}(h:bn μ H w){b:Nat}{o o':cp}{i:dY}(af:H.get b=some o)(gV:o.mD=false)(ae:μ b=some i)
  (hs:w'.heap.size=w.heap.size)(a7:∀r,r≠i.bb->w'.heap[r]? =w.heap[r]?)(vu:w'.os=w.os)(vw:w'.output=w.output)(AO:w'.tape=w.tape)(ai:mC μ o' i w')(hdr:w.drawn<=w'.drawn:=by first|exact Nat.le_refl _|assumption):
  bn μ (H.set b (some o')) w'/\b5 μ H w μ (H.set b (some o')) w':=by
 have tB:H.get b≠none:=by rw[af];simp
 have o1:∀c,(H.set b (some o')).get c≠none->H.get c≠none:=λc ag=>by
  rw[J.b2] at ag
  by_cases e:c=b
  · subst e;exact tB
  · rw[if_neg e] at ag;exact ag
 constructor
 · refine⟨λc nn j ag aG=>?_,λc d j k ag aA=>h.inj c d j k (o1 c ag) (by
     obtain⟨x,ab,n6⟩:=aA
     rw[J.b2] at ab
     by_cases e:d=b
     · subst e;exact⟨o,af,gV⟩
     · rw[if_neg e] at ab;exact⟨x,ab,n6⟩),λc j aG=>by rw[hs];exact h.lt c j aG,λc ag=>?_⟩
   · rw[J.b2] at ag
     by_cases e:c=b
     · subst e;rw[if_pos rfl] at ag;cases ag
       rw[ae] at aG;cases aG;exact ai
     · rw[if_neg e] at ag
       refine(h.rel c nn j ag aG).mono (eF.refl μ) (a7 _ λcR=>e (h.inj c b j i (by rw[ag];simp) ⟨o,af,gV⟩ aG ae cR))
   · rw[J.b2,if_neg]
     · exact h.bound c ag
     · intro e;subst e;have:=(h.lt c i ae).1;simp at ag;omega
 · refine⟨eF.refl μ,by omega,by simp,λc _ ag=>o1 c ag,λc _ hm=>(by rw[J.b2,if_neg];intro e;subst e;rw[ae] at hm;cases hm),λr ai aI=>a7 r λe=>aI b i tB ae e.symm,λc j aa ad=>(by rw[aa] at ad;cases ad),λc nn j ag p5 aG=>?_,vu,vw,AO,hdr⟩
   have dk:c≠b:=by intro e;subst e;rw[af] at ag;cases ag;rw[gV] at p5;cases p5
   refine⟨by rw[J.b2,if_neg dk];exact ag,a7 _ λe=>dk (h.inj c b j i (by rw[ag];simp) ⟨o,af,gV⟩ aG ae e)⟩
end aB
namespace aB
open Go
theorem add_plain(b o n:Nat):(⟨b,o,none⟩:Addr).add n=⟨b,o+n,none⟩:=by
 unfold Addr.add
 by_cases h:n=0
 · simp[h]
 · simp[h]
theorem o2{α:Type}:∀(n:Nat) (l:List α),nth n l=l[n]?
 |0,[]=>rfl
 |_+1,[]=>rfl
 |0,_::_=>rfl
 |n+1,_::l=>by simpa[nth] using o2 n l
theorem mE{α:Type}:∀(n:Nat) (l:List α),ho n l=l.drop n
 |0,l=>by simp[ho]
 |_+1,[]=>by simp[ho]
 |n+1,_::l=>by simpa[ho] using mE n l
theorem rG:∀(n:Nat) (l r:List I),takeN n l=some r->n<=l.length/\r=l.take n
 |0,l,r,h=>by simp[takeN] at h;subst h;simp
 |_+1,[],r,h=>by simp[takeN] at h
 |n+1,a::l,r,h=>by
  simp only[takeN] at h
  cases e:takeN n l with
  |none=>simp[e] at h
  |some r'=>
   simp[e] at h;subst h
   obtain⟨aa,ad⟩:=rG n l r' e
   simp[ad];omega
theorem yg:∀(n:Nat) (vs cs r:List I),eR n vs cs=some r->
  r.length=cs.length/\(vs≠[]->n+vs.length<=cs.length)/\(∀v∈vs,v.b0=true)/\∀j,r[j]? =if n<=j/\j<n+vs.length then vs[j-n]? else cs[j]?
 |0,[],cs,r,h=>by
  simp[eR] at h;subst h
  refine⟨rfl,λh=>absurd rfl h,λv aC=>(by cases aC),λj=>by rw[if_neg (by simp)]⟩
 |0,_::_,[],r,h=>by simp[eR] at h
 |0,v::vs,c::cs,r,h=>by
  simp only[eR] at h
  cases ag:v.b0 with
  |false=>simp[ag] at h
  |true=>
   simp only[ag] at h
   cases e:eR 0 vs cs with
   |none=>simp[e] at h
   |some r'=>
    simp[e] at h;subst h
    obtain⟨aa,ad,aw,aQ⟩:=yg 0 vs cs r' e
    refine⟨by simp[aa],λ_=>?_,λx ab=>?_,λj=>?_⟩
    · cases vs with
      |nil=>simp
      |cons a l=>have:=ad (by simp);simp at this⊢;omega
    · cases ab with
      |head=>exact ag
      |tail _ ab=>exact aw x ab
    · cases j with
      |zero=>simp
      |succ j=>simpa using aQ j
 |n+1,[],cs,r,h=>by
  simp[eR] at h;subst h
  refine⟨rfl,λh=>absurd rfl h,λv aC=>(by cases aC),λj=>by rw[if_neg (by simp)]⟩
 |n+1,_::_,[],r,h=>by simp[eR] at h
 |n+1,v::vs,c::cs,r,h=>by
  simp only[eR] at h
  cases e:eR n (v::vs) cs with
  |none=>simp[e] at h
  |some r'=>
   simp[e] at h;subst h
   obtain⟨aa,ad,aw,aQ⟩:=yg n (v::vs) cs r' e
   refine⟨by simp[aa],λ_=>?_,aw,λj=>?_⟩
   · have:=ad (by simp);simp at this⊢;omega
   · cases j with
     |zero=>simp
     |succ j=>
      have:=aQ j
      simp only[List.getElem?_cons_succ,this,List.length_cons]
      have ax:(n+1<=j+1/\j+1<n+1+(vs.length+1))<->(n<=j/\j<n+(vs.length+1)):=by omega
      have ay:j+1-(n+1)=j-n:=by omega
      simp only[ax,ay]
theorem EZ{w:World}{bb el fg fh:Nat}{c:Array Value}(h:w.heap[bb]? =some (.cells c el (fg,fh)))(k:Nat):w.cell? ⟨bb,k,none⟩=c[k]? :=by
 simp[World.cell?,h]
theorem E0{μ:bg}{H:J}{w:World}(aj:bn μ H w){b off:Nat}{i:dY}(ae:μ b=some i){cs:List I}{el bk dV:Nat}{k:ey}(af:H.get b=some (.cells cs el k bk dV))
  {v:I}(aC:cs[off]? =some v):∃u,w.cell? ⟨i.bb,i.base+off,none⟩=some u/\a9 μ v u:=by
 obtain⟨c,fg,fh,aa,ad,_⟩:=aj.rel b _ i af ae
 obtain⟨u,hu,r⟩:=ad off v aC
 exact⟨u,by rw[EZ aa,hu],r⟩
theorem E1{P:Program}{w:World}{a:Addr}{u:Value}(h:w.cell? a=some u):(_root_.Go.load a).run P w=.ok u w:=by
 rw[run_load];simp[h]
theorem Lx{P:Program}{μ:bg}{H:J}{w:World}(aj:bn μ H w){b:Nat}{i:dY}(ae:μ b=some i){cs:List I}{el bk dV:Nat}{k:ey}(af:H.get b=some (.cells cs el k bk dV))(off:Nat):
  ∀(n s:Nat) (acc:Array Value) (p6:List I),takeN n (ho (off+s) cs)=some p6->
   ∃us:List Value,(loadCellsFrom ⟨i.bb,i.base+off,none⟩ s n acc).run P w=.ok (acc++us.toArray) w/\b4 μ p6 us:=by
 intro n
 induction n with
 |zero=>
  intro s acc p6 h
  simp[takeN] at h;subst h
  exact⟨[],by simp[loadCellsFrom],rfl⟩
 |succ n bd=>
  intro s acc p6 h
  rw[mE] at h
  cases aA:cs.drop (off+s) with
  |nil=>rw[aA] at h;simp[takeN] at h
  |cons a l=>
   rw[aA] at h
   simp only[takeN] at h
   cases e:takeN n l with
   |none=>simp[e] at h
   |some r=>
    simp[e] at h;subst h
    have ba:cs[off+s]? =some a:=by
     have:=congrArg (·[0]?) aA
     simpa[List.getElem?_drop] using this
    have aq:l=ho (off+(s+1)) cs:=by
     rw[mE]
     have:=congrArg (List.drop 1) aA
     simp only[List.drop_drop,List.drop_succ_cons,List.drop_zero] at this
     rw[<-this];congr 1
    obtain⟨u,hu,ai⟩:=E0 aj ae af ba
    obtain⟨us,aa,ad⟩:=bd (s+1) (acc.push u) r (by rw[<-aq];exact e)
    refine⟨u::us,?_,⟨u,us,rfl,ai,ad⟩⟩
    have p7:w.cell? ((⟨i.bb,i.base+off,none⟩:Addr).add s)=some u:=by rw[add_plain,Nat.add_assoc];exact hu
    simp only[loadCellsFrom,Sem.run_bind,E1 p7,Result.andThen_ok,aa]
    congr 1
    apply Array.ext'
    simp
theorem p8{P:Program}{μ:bg}{H:J}{w:World}(aj:bn μ H w){b off n:Nat}{i:dY}(ae:μ b=some i){p6:List I}(h:loadCells H b off n=some p6):
  ∃us:List Value,(_root_.Go.loadCells ⟨i.bb,i.base+off,none⟩ n).run P w=.ok ⟨us⟩ w/\b4 μ p6 us:=by
 unfold loadCells at h
 split at h
 · rename_i cs el k bk dV af
   obtain⟨us,aa,ad⟩:=Lx (P:=P) aj ae af off n 0 #[] p6 h
   exact⟨us,by simpa[_root_.Go.loadCells] using aa,ad⟩
 · cases h
theorem AP{P:Program}{μ:bg}{H:J}{w:World}(aj:bn μ H w){b off:Nat}{i:dY}(ae:μ b=some i){v:I}(h:au H b off=some v):
  ∃u,(_root_.Go.load ⟨i.bb,i.base+off,none⟩).run P w=.ok u w/\a9 μ v u:=by
 unfold au at h
 split at h
 · rename_i cs el k bk dV af
   rw[o2] at h
   obtain⟨u,hu,ai⟩:=E0 aj ae af h
   exact⟨u,E1 hu,ai⟩
 · cases h
theorem E2(P:Program)(bb k:Nat):∀(vs:List Value) (w:World) (i:Nat) (c:Array Value) (el fg fh:Nat),w.heap[bb]? =some (.cells c el (fg,fh))->
  (∀v∈vs,v.oneCell'=true)->k+i+vs.length<=c.size->(∀j,k+i<=j->j<k+i+vs.length->¬(fg<=j/\j<fh))->
  ∃w' c',(_root_.Go.storeCells ⟨bb,k,none⟩ vs i).run P w=.ok () w'/\w'.heap[bb]? =some (.cells c' el (fg,fh))/\(∀r,r≠bb->w'.heap[r]? =w.heap[r]?)/\w'.heap.size=w.heap.size/\
   w'.os=w.os/\w'.output=w.output/\(w'.tape=w.tape/\w'.drawn=w.drawn)/\c'.size=c.size/\∀j,c'[j]? =if k+i<=j/\j<k+i+vs.length then vs[j-(k+i)]? else c[j]? :=by
 intro vs
 induction vs with
 |nil=>
  intro w i c el fg fh af _ _ _
  exact⟨w,c,by simp[_root_.Go.storeCells],af,λ_ _=>rfl,rfl,rfl,rfl,⟨rfl,rfl⟩,rfl,λj=>by rw[if_neg (by simp)]⟩
 |cons v vs bd=>
  intro w i c el fg fh af ag hs hf
  simp only[List.length_cons] at hs hf
  have cu:k+i<c.size:=by omega
  have p9:w.cell? ⟨bb,k+i,none⟩=some c[k+i]:=by rw[EZ af];exact Array.getElem?_eq_getElem cu
  have yh:w.frozen? ⟨bb,k+i,none⟩=false:=by
   have:=hf (k+i) (by omega) (by omega)
   simp only[World.frozen?,af]
   cases aa:decide (fg<=k+i) with
   |false=>rfl
   |true=>
    cases ad:decide (k+i<fh) with
    |false=>rfl
    |true=>exact absurd ⟨of_decide_eq_true aa,of_decide_eq_true ad⟩ this
  have gz:(w.setCell ⟨bb,k+i,none⟩ v).heap[bb]? =some (.cells (c.setIfInBounds (k+i) v) el (fg,fh)):=by
   simp[World.setCell,Array.getElem?_modify,af]
  obtain⟨w',c',aa,ad,aw,aQ,bS,dm,eG,gL,fX⟩:=bd (w.setCell ⟨bb,k+i,none⟩ v) (i+1) (c.setIfInBounds (k+i) v) el fg fh gz (λx ab=>ag x (.tail _ ab)) (by simp;omega)
   (λj XY k7=>hf j (by omega) (by omega))
  refine⟨w',c',?_,ad,λr ai=>?_,?_,bS,dm,eG,by simpa using gL,λj=>?_⟩
  · simp only[_root_.Go.storeCells,Sem.run_bind,add_plain,run_store P w ⟨bb,k+i,none⟩ v .plain (ag v (.head _)),p9,yh,Bool.false_eq_true,if_false,Result.andThen_ok,aa]
  · rw[aw r ai];simp only[World.setCell,Array.getElem?_modify]
    rw[if_neg (λe=>ai e.symm)]
  · rw[aQ];simp[World.setCell]
  · rw[fX j]
    by_cases e:j=k+i
    · subst e
      rw[if_neg (by omega),if_pos (by simp),Array.getElem?_setIfInBounds]
      simp[cu]
    · by_cases ay:k+(i+1)<=j/\j<k+(i+1)+vs.length
      · rw[if_pos ay,if_pos (by simp only[List.length_cons];omega)]
        have:j-(k+i)=(j-(k+(i+1)))+1:=by omega
        rw[this];simp
      · rw[if_neg ay,if_neg (by simp only[List.length_cons];omega),Array.getElem?_setIfInBounds]
        rw[if_neg (λcR=>e cR.symm)]
theorem b4.vt{μ:bg}:∀{as:List I} {vs:List Value},b4 μ as vs->(∀a∈as,a.b0=true)->∀v∈vs,v.oneCell'=true
 |[],_,h,_=>by cases h;intro v aC;cases aC
 |a::as,_,⟨v,vs,e,aa,ad⟩,ag=>by
  subst e
  intro x ab
  cases ab with
  |head=>exact aa.vt (ag a (.head _))
  |tail _ ab=>exact b4.vt ad (λa ba=>ag a (.tail _ ba)) x ab
theorem Ly{k:ey}{bk ae off n:Nat}(hw:iN k bk ae off n=true){cs:List I}{i:dY}{fg fh:Nat}(av:AM k cs i bk ae fg fh)(cY:n=0\/off+n<=i.size):
  ∀j,i.base+off<=j->j<i.base+off+n->¬(fg<=j/\j<fh):=by
 intro j aa ad ⟨aw,aQ⟩
 cases k with
 |ro=>simp[iN] at hw
 |fz=>simp[iN] at hw
 |own=>
  obtain⟨af,hs,rfl,rfl⟩:=av
  simp only[iN,Bool.or_eq_true,Nat.ble_eq] at hw
  omega
 |aS=>
  obtain⟨hs,hf⟩:=av
  simp only[iN,Bool.or_eq_true,Nat.ble_eq] at hw
  have:=hf (j-i.base) (by omega) (by omega) (by omega)
  omega
theorem vx{P:Program}{μ:bg}{H:J}{w:World}(aj:bn μ H w){b off:Nat}{i:dY}(ae:μ b=some i){vs:List I}{us:List Value}(aC:b4 μ vs us){aT:J}
  (h:storeCells H b off vs=some aT):
  ∃w',(_root_.Go.storeCells ⟨i.bb,i.base+off,none⟩ us).run P w=.ok () w'/\bn μ aT w'/\b5 μ H w μ aT w':=by
 unfold storeCells at h
 split at h
 · rename_i cs el k bk dV af
   split at h
   · rename_i hw
     split at h
     · rename_i bX a_
       cases h
       obtain⟨eO,fY,k8,n7⟩:=yg _ _ _ _ a_
       obtain⟨c,fg,fh,aa,ad,aw,aQ⟩:=aj.rel b _ i af ae
       have hlen:=aC.length
       have bH:vs≠[]->off+vs.length<=i.size/\i.base+off+vs.length<=c.size:=λdk=>by
        have:=fY dk
        have p_:=ad (cs.length-1) (cs[cs.length-1]'(by cases vs with|nil=>exact absurd rfl dk|cons a l=>simp at this;omega)) (List.getElem?_eq_getElem _)
        obtain⟨u,hu,_⟩:=p_
        have cu:i.base+(cs.length-1)<c.size:=by
         rcases Nat.lt_or_ge (i.base+(cs.length-1)) c.size with h|h
         · exact h
         · rw[Array.getElem?_eq_none h] at hu;cases hu
        have yi:0<vs.length:=by cases vs with|nil=>exact absurd rfl dk|cons a l=>simp
        cases k with
        |ro=>simp[iN] at hw
        |fz=>simp[iN] at hw
        |own=>obtain⟨c9,dJ,_⟩:=aQ;omega
        |aS=>obtain⟨c9,_⟩:=aQ;omega
       by_cases dk:vs=[]
       · subst dk
         have:us=[]:=by cases us with|nil=>rfl|cons a l=>simp at hlen
         subst this
         have g_:bX=cs:=by
          apply List.ext_getElem?
          intro j;rw[n7 j,if_neg (by simp)]
         subst g_
         obtain⟨r1,r2⟩:=aj.update (w':=w) af (by cases k<;>first|rfl|simp[iN] at hw) ae rfl (λ_ _=>rfl) rfl rfl rfl (aj.rel b _ i af ae)
         exact⟨w,by simp[_root_.Go.storeCells],r1,r2⟩
       · obtain⟨s1,s2⟩:=bH dk
         obtain⟨w',c',ax,ay,bF,en,k9,fC,e6,gj,gW⟩:=E2 P i.bb (i.base+off) us w 0 c el fg fh aa (aC.vt k8) (by omega)
          (by have:=Ly hw aQ (.inr s1);rw[hlen] at this;simpa using this)
         obtain⟨r1,r2⟩:=aj.update (w':=w') (o':=.cells bX el k bk dV) af (by cases k<;>first|rfl|simp[iN] at hw) ae en bF k9 fC e6.1 (hdr:=Nat.le_of_eq e6.2.symm)
          ⟨c',fg,fh,ay,λj v aG=>by
           rw[n7 j] at aG
           rw[gW]
           by_cases ai:off<=j/\j<off+vs.length
           · rw[if_pos ai] at aG
             rw[if_pos (by omega)]
             have:i.base+j-(i.base+off+0)=j-off:=by omega
             rw[this];exact aC.get aG
           · rw[if_neg ai] at aG
             rw[if_neg (by omega)]
             exact ad j v aG,by omega,by
           cases k with
           |ro=>trivial
           |fz=>trivial
           |own=>obtain⟨c9,dJ,gA⟩:=aQ;exact⟨c9,by omega,gA⟩
           |aS=>obtain⟨c9,dJ⟩:=aQ;exact⟨by omega,dJ⟩⟩
         exact⟨w',ax,r1,r2⟩
     · cases h
   · cases h
 · cases h
theorem World.heap_alloc_new(w:World)(x:Obj):(w.alloc x).heap[w.heap.size]? =some x:=by unfold World.alloc;simp
theorem yj{P:Program}{μ:bg}{H:J}{w:World}(aj:bn μ H w){el b:Nat}{cs:List I}{us:List Value}{aT:J}(aC:b4 μ cs us)(h:newRow H el cs=some (b,aT)):
  (_root_.Go.newRow el ⟨us⟩).run P w=.ok ⟨w.heap.size,0,none⟩ (w.alloc (.cells ⟨us⟩ el))/\b=H.n/\fH μ H.n ⟨w.heap.size,0,us.length⟩ b=some ⟨w.heap.size,0,us.length⟩/\
   bn (fH μ H.n ⟨w.heap.size,0,us.length⟩) aT (w.alloc (.cells ⟨us⟩ el))/\b5 μ H w (fH μ H.n ⟨w.heap.size,0,us.length⟩) aT (w.alloc (.cells ⟨us⟩ el)):=by
 unfold newRow at h
 split at h
 · cases h
   have hle:=aj.nm ⟨w.heap.size,0,us.length⟩
   obtain⟨r1,r2⟩:=aj.alloc (.cells cs el .own 0 0) (.cells ⟨us⟩ el) us.length
    ⟨⟨us⟩,0,0,by exact World.heap_alloc_new _ _,λj v aG=>by
      obtain⟨u,hu,ai⟩:=aC.get aG
      exact⟨u,by simpa using hu,ai.mono hle⟩,by simp,rfl,aC.length.symm,rfl,rfl⟩
   exact⟨by simp[_root_.Go.newRow],rfl,fI _ _ _,r1,r2⟩
 · cases h
section types
variable {P:Program} {w:World} {t:TypeId}
theorem run_typeInfo{i:TypeInfo}(h:P.info? t=some i):(typeInfo t).run P w=.ok i w:=by simp[typeInfo,h]
theorem bN{d:TypeDesc}(h:P.underlying t=some d):(underlying t).run P w=.ok d w:=by simp[underlying,h]
theorem run_sizeOf{n:Nat}(h:dd P t=some n):(_root_.Go.sizeOf t).run P w=Result.ok n w:=by
 unfold dd at h
 split at h
 · rename_i i ae;cases h;simp[_root_.Go.sizeOf,run_typeInfo ae]
 · cases h
theorem tC{b:Bool}(h:nd P t=some b):(isAgg t).run P w=.ok b w:=by
 unfold nd at h
 cases hu:P.underlying t with
 |none=>rw[hu] at h;cases h
 |some d=>
  rw[hu] at h
  simp only[isAgg,Sem.run_bind,bN hu,Result.andThen_ok]
  cases d<;>cases h<;>rfl
theorem k_{z:I}(h:ea P t=some z):∃v,(zeroValue t).run P w=.ok v w/\z=nc v/\z≠ .bad:=by
 unfold ea at h
 split at h
 · rename_i i ae
   split at h
   · rename_i v aC
     split at h
     · cases h
     · rename_i a dk
       cases h
       exact⟨v,by simp[zeroValue,run_typeInfo ae,aC],rfl,dk⟩
   · cases h
 · cases h
end types
end aB
namespace aB
open Go
def eT(P:Program)(μ:bg)(H:J)(w:World)(s:Sem Value)(v:I)(aT:J):Prop:=
 ∃aM w' v',s.run P w=.ok v' w'/\a9 aM v v'/\bn aM aT w'/\b5 μ H w aM aT w'
theorem eT.same{P:Program}{μ:bg}{H:J}{w:World}{s:Sem Value}{v:I}{v':Value}(aj:bn μ H w)(hs:s.run P w=.ok v' w)(aC:a9 μ v v'):eT P μ H w s v H:=
 ⟨μ,w,v',hs,aC,aj,b5.refl _ _ _⟩
section
variable {P:Program} {μ:bg} {H:J} {w:World}
theorem Lz(aj:bn μ H w){e:TypeId}{z:I}(a4:ea P e=some z){b:Nat}{aT:J}(ai:newRow H e z.cells=some (b,aT)):
  eT P μ H w (Instr.alloc e true (.tuple #[])) (.ptr b 0) aT:=by
 obtain⟨v,aC,rfl,af⟩:=k_ (w:=w) a4
 have ag:=(jw μ v).cells af
 obtain⟨aa,rfl,ad,aw,aQ⟩:=yj (P:=P) aj ag ai
 refine⟨_,_,.pointer (some ⟨w.heap.size,0,none⟩),?_,⟨_,ad,by simp⟩,aw,aQ⟩
 simp[Instr.alloc,aC,newVar,aa]
theorem LA(aj:bn μ H w){e:TypeId}{x:I}{v:Value}(aC:a9 μ x v){b:Nat}{aT:J}(ai:newRow H e x.cells=some (b,aT)):
  eT P μ H w (Instr.box e v) (.ptr b 0) aT:=by
 have af:x≠ .bad:=by intro h;rw[h] at ai;simp[newRow,I.cells,I.b0] at ai
 obtain⟨aa,rfl,ad,aw,aQ⟩:=yj (P:=P) aj (aC.cells af) ai
 refine⟨_,_,.pointer (some ⟨w.heap.size,0,none⟩),?_,⟨_,ad,by simp⟩,aw,aQ⟩
 simp[Instr.box,newVar,aa]
theorem LB(aj:bn μ H w){t:TypeId}{b off:Nat}{v:Value}(aC:a9 μ (.ptr b off) v):
  (∀n cs,nd P t=some true->dd P t=some n->loadCells H b off n=some cs->eT P μ H w (Instr.loadAt t v) (.agg cs) H)/\
  (∀x,nd P t=some false->au H b off=some x->eT P μ H w (Instr.loadAt t v) x H):=by
 obtain⟨i,ae,rfl⟩:=aC
 constructor
 · intro n cs ba aI aq
   obtain⟨us,aa,ad⟩:=p8 (P:=P) aj ae aq
   exact .same aj (v':=.agg ⟨us⟩) (by simp[Instr.loadAt,Instr.sureAddr,loadVar,tC ba,run_sizeOf aI,aa]) ⟨us,rfl,ad⟩
 · intro x ba aq
   obtain⟨u,aa,ad⟩:=AP (P:=P) aj ae aq
   exact .same aj (v':=u) (by simp only[Instr.loadAt,Instr.sureAddr,loadVar,Sem.run_bind,Sem.run_pure,Result.andThen_ok,tC ba,Bool.false_eq_true,if_false,aa]) ad
theorem LC(aj:bn μ H w){t:TypeId}{b off n:Nat}{v u:Value}{x:I}(aC:a9 μ (.ptr b off) v)(ab:a9 μ x u)(af:x≠ .bad)(aI:dd P t=some n)(aq:x.cells.length=n)
  {aT:J}(hs:storeCells H b off x.cells=some aT):
  ∃w',(Instr.storeAt t v u).run P w=.ok () w'/\bn μ aT w'/\b5 μ H w μ aT w':=by
 obtain⟨i,ae,rfl⟩:=aC
 have ag:=ab.cells af
 obtain⟨w',aa,ad,aw⟩:=vx (P:=P) aj ae ag hs
 refine⟨w',?_,ad,aw⟩
 have bH:u.cells.size=n:=by have:=ag.length;rw[aq] at this;simpa using this.symm
 simp[Instr.storeAt,Instr.sureAddr,storeVar,run_sizeOf aI,bH,aa]
theorem E3(off:Nat):∀(l:List Value) (s:Nat) (cs:Array Value),off+s+l.length<=cs.size->
  ((l.zipIdx s).foldl (λcs (x:Value×Nat)=>cs.setIfInBounds (off+x.2) x.1) cs).size=cs.size/\
  ∀j:Nat,((l.zipIdx s).foldl (λcs (x:Value×Nat)=>cs.setIfInBounds (off+x.2) x.1) cs)[j]? =if off+s<=j/\j<off+s+l.length then l[j-(off+s)]? else cs[j]?
 |[],s,cs,_=>by
  refine⟨rfl,λj=>by rw[if_neg (by simp)];rfl⟩
 |a::l,s,cs,h=>by
  simp only[List.length_cons] at h
  obtain⟨aa,ad⟩:=E3 off l (s+1) (cs.setIfInBounds (off+s) a) (by simp;omega)
  simp only[List.zipIdx_cons,List.foldl_cons]
  refine⟨by rw[aa];simp,λj=>?_⟩
  rw[ad j]
  by_cases e:j=off+s
  · subst e
    rw[if_neg (by omega),if_pos (by simp),Array.getElem?_setIfInBounds]
    simp;omega
  · by_cases ay:off+(s+1)<=j/\j<off+(s+1)+l.length
    · rw[if_pos ay,if_pos (by simp only[List.length_cons];omega)]
      have:j-(off+s)=(j-(off+(s+1)))+1:=by omega
      rw[this];simp
    · rw[if_neg ay,if_neg (by simp only[List.length_cons];omega),Array.getElem?_setIfInBounds,if_neg (λcR=>e cR.symm)]
theorem vy(place:Nat->Option (Nat×Nat)){rD:Type}(g:rD->I)(ck:rD->Value)(ak:∀x,a9 μ (g x) (ck x)):∀(ps:List (Nat×rD)) (cs r:List I) (c:Array Value),b4 μ cs c.toList->
  iO place cs (ps.map λp=>(p.1,g p.2))=some r->∃c':List Value,Instr.fill place c (ps.map λp=>(p.1,ck p.2))=some ⟨c'⟩/\b4 μ r c'
 |[],cs,r,c,ag,h=>by
  simp[iO] at h;subst h
  exact⟨c.toList,by simp[Instr.fill],ag⟩
 |(k,x)::ps,cs,r,c,ag,h=>by
  simp only[List.map_cons] at h⊢
  have aC:=ak x
  generalize g x=v at h aC
  generalize ck x=u at aC⊢
  have af:v≠ .bad:=by intro e;subst e;simp[iO] at h
  have vz:∃off size bX,place k=some (off,size)/\v.cells.length=size/\off+size<=cs.length/\eR off v.cells cs=some bX/\iO place bX (ps.map λp=>(p.1,g p.2))=some r:=by
   cases v<;>first
    |exact absurd rfl af
    |(simp only[iO] at h
      split at h
      · cases h
      · rename_i off size iQ
        split at h
        · rename_i bH
          simp only[Bool.and_eq_true,Nat.ble_eq] at bH
          split at h
          · rename_i bX vA
            exact⟨off,size,bX,iQ,Nat.eq_of_beq_eq_true bH.1,bH.2,vA,h⟩
          · cases h
        · cases h)
  obtain⟨off,size,bX,iQ,bH,hbound,vA,qa⟩:=vz
  obtain⟨eO,fY,k8,n7⟩:=yg _ _ _ _ vA
  have kB:=aC.cells af
  have aq:=kB.length
  have qb:=ag.length
  have aw:c.toList.length=c.size:=by simp
  have LD:u.cells.size=size:=by rw[<-bH,aq];simp
  obtain⟨f1,f2⟩:=E3 off u.cells.toList 0 c (by simp;omega)
  have LF:(u.cells.zipIdx.foldl (λcs (x:Value×Nat)=>cs.setIfInBounds (off+x.2) x.1) c)=((u.cells.toList.zipIdx 0).foldl (λcs (x:Value×Nat)=>cs.setIfInBounds (off+x.2) x.1) c):=by
   rw[<-Array.foldl_toList,Array.toList_zipIdx]
  have key:b4 μ bX (u.cells.zipIdx.foldl (λcs (x:Value×Nat)=>cs.setIfInBounds (off+x.2) x.1) c).toList:=by
   rw[LF]
   refine b4.vr (by rw[eO,qb];simpa using f1.symm) λj a ba=>?_
   rw[n7 j] at ba
   rw[Array.getElem?_toList,f2 j]
   have LG:u.cells.toList.length=v.cells.length:=aq.symm
   by_cases ai:off<=j/\j<off+v.cells.length
   · rw[if_pos ai] at ba;rw[if_pos (by omega)]
     exact kB.get (by simpa using ba)
   · rw[if_neg ai] at ba;rw[if_neg (by omega)]
     simpa using ag.get ba
  obtain⟨c',al,ar⟩:=vy place g ck ak ps bX r _ key qa
  refine⟨c',?_,ar⟩
  simp only[Instr.fill,iQ,LD]
  rw[if_neg (by simp;omega)]
  exact al
theorem LH{t:TypeId}{n:Nat}(h:dd P t=some n):P.cellsOf t=n:=by
 unfold dd at h
 split at h
 · rename_i i ae;cases h;simp[Program.cellsOf,ae]
 · cases h
theorem run_places(w:World):∀l:List Field,(l.all λf=>(dd P f.type).isSome)=true->
  (l.mapM (λf=>do pure (f.offset,<-_root_.Go.sizeOf f.type):Field->Sem (Nat×Nat))).run P w=.ok (l.map λf=>(f.offset,P.cellsOf f.type)) w
 |[],_=>rfl
 |f::l,h=>by
  simp only[List.all_cons,Bool.and_eq_true] at h
  obtain⟨n,aI⟩:=Option.isSome_iff_exists.1 h.1
  simp only[List.mapM_cons,Sem.run_bind,run_sizeOf aI,Result.andThen_ok,Sem.run_pure,run_places w l h.2,List.map_cons,LH aI]
theorem LI(aj:bn μ H w)(g:Operand->I)(ck:Operand->Value)(ak:∀x,a9 μ (g x) (ck x)){t:TypeId}{z:I}(a4:ea P t=some z){cc:Array Field}(hu:P.underlying t=some (.struct cc))
  (e7:(cc.toList.all λf=>(dd P f.type).isSome)=true)(parts:Array (Nat×Operand)){cs:List I}
  (hf:iO (λi=>(cc[i]?).map λf=>(f.offset,P.cellsOf f.type)) z.cells (parts.toList.map λp=>(p.1,g p.2))=some cs):
  eT P μ H w (Instr.build t (parts.map λ(i,x)=>(i,ck x))) (.agg cs) H:=by
 obtain⟨v,aC,rfl,af⟩:=k_ (w:=w) a4
 have ag:=(jw μ v).cells af
 obtain⟨c',aa,ad⟩:=vy _ g ck ak parts.toList _ cs v.cells ag hf
 have a_:=run_places (P:=P) w cc.toList e7
 refine .same aj (v':=.agg ⟨c'⟩) ?_ ⟨c',rfl,ad⟩
 have hm:(cc.mapM (λf=>do pure (f.offset,<-_root_.Go.sizeOf f.type):Field->Sem (Nat×Nat))).run P w=.ok (cc.map λf=>(f.offset,P.cellsOf f.type)) w:=by
  obtain⟨l⟩:=cc
  have e:(l.toArray.mapM (λf=>do pure (f.offset,<-_root_.Go.sizeOf f.type):Field->Sem (Nat×Nat)))=List.toArray<$>l.mapM (λf=>do pure (f.offset,<-_root_.Go.sizeOf f.type)):=List.mapM_toArray
  refine(congrArg (λs:Sem (Array (Nat×Nat))=>s.run P w) e).trans ?_
  simp only[Sem.run_map]
  rw[show(Sem.run P (List.mapM (λf=>do pure (f.offset,<-_root_.Go.sizeOf f.type):Field->Sem (Nat×Nat)) l) w)=_ from a_];simp
 have LJ:(λi:Nat=>(cc.map λf=>(f.offset,P.cellsOf f.type))[i]?)=λi=>(cc[i]?).map λf=>(f.offset,P.cellsOf f.type):=by
  funext i;simp
 simp only[Instr.build,Sem.run_bind,aC,Result.andThen_ok,bN hu,hm,LJ,Array.toList_map,aa]
 rfl
theorem LK(aj:bn μ H w)(g:Operand->I)(ck:Operand->Value)(ak:∀x,a9 μ (g x) (ck x)){t e:TypeId}{n sz:Nat}{z:I}(a4:ea P t=some z)(hu:P.underlying t=some (.array n e))
  (hs:dd P e=some sz)(parts:Array (Nat×Operand)){cs:List I}
  (hf:iO (λi=>some (i*sz,sz)) z.cells (parts.toList.map λp=>(p.1,g p.2))=some cs):
  eT P μ H w (Instr.build t (parts.map λ(i,x)=>(i,ck x))) (.agg cs) H:=by
 obtain⟨v,aC,rfl,af⟩:=k_ (w:=w) a4
 have ag:=(jw μ v).cells af
 obtain⟨c',aa,ad⟩:=vy _ g ck ak parts.toList _ cs v.cells ag hf
 refine .same aj (v':=.agg ⟨c'⟩) ?_ ⟨c',rfl,ad⟩
 simp only[Instr.build,Sem.run_bind,aC,Result.andThen_ok,bN hu,run_sizeOf hs,Array.toList_map,aa]
 rfl
theorem E4{α:Type}(n:Nat)(l:List α):(eD n l).length=n*l.length:=by
 induction n with
 |zero=>simp[eD]
 |succ n bd=>simp[eD,bd,Nat.succ_mul];omega
theorem E5{α:Type}:∀(n:Nat) (l:List α) (j:Nat),j<n*l.length->(eD n l)[j]? =l[j %l.length]?
 |0,l,j,h=>by simp at h
 |n+1,l,j,h=>by
  simp only[eD]
  by_cases e:j<l.length
  · rw[List.getElem?_append_left e,Nat.mod_eq_of_lt e]
  · rw[List.getElem?_append_right (by omega),E5 n l (j-l.length) (by rw[Nat.succ_mul] at h;omega)]
    have:(j-l.length) %l.length=j %l.length:=by
     have aj:j=(j-l.length)+l.length:=by omega
     conv=>rhs;rw[aj,Nat.add_mod_right]
    rw[this]
theorem vB{mF:List I}{zero:Array Value}(a4:b4 μ mF zero.toList){sz:Nat}(hs:mF.length=sz)(n:Nat):
  b4 μ (eD n mF) ((Array.range (n*sz)).map (λi=>zero[i %zero.size]!)).toList:=by
 have aq:=a4.length
 have aw:zero.toList.length=zero.size:=by simp
 refine b4.vr (by rw[E4,hs];simp) λj a ba=>?_
 have aG:j<n*mF.length:=by
  rcases Nat.lt_or_ge j (n*mF.length) with h|h
  · exact h
  · rw[List.getElem?_eq_none (by rw[E4];exact h)] at ba;cases ba
 rw[E5 n mF j aG] at ba
 obtain⟨u,hu,ai⟩:=a4.get ba
 refine⟨u,?_,ai⟩
 have yi:0<mF.length:=by
  rcases Nat.eq_zero_or_pos mF.length with h|h
  · rw[h] at aG;simp at aG
  · exact h
 have cu:j %zero.size<zero.size:=Nat.mod_lt _ (by omega)
 have ax:mF.length=zero.size:=by omega
 rw[ax] at hu
 rw[Array.getElem?_toList] at hu
 rw[Array.getElem?_toList,Array.getElem?_map,Array.getElem?_range]
 rw[if_pos (by rw[<-hs];exact aG)]
 simp only[Option.map_some]
 rw[Array.getElem?_eq_getElem cu] at hu
 simp only[Option.some.injEq] at hu
 rw[getElem!_pos zero _ cu,hu]
theorem LL(aj:bn μ H w)(g:Operand->I)(ck:Operand->Value)(ak:∀x,a9 μ (g x) (ck x)){t e:TypeId}{len sz:Nat}{z:I}(hu:P.underlying t=some (.slice e))(hs:dd P e=some sz)
  (a4:ea P e=some z)(hle:len*sz<=16777216)(mG:z.cells.length=sz)(parts:Array (Nat×Operand)){cs:List I}
  (hf:iO (λi=>some (i*sz,sz)) (if len*sz=0 then[] else eD len z.cells) (parts.toList.map λp=>(p.1,g p.2))=some cs){b:Nat}{aT:J}(ai:newRow H e cs=some (b,aT)):
  eT P μ H w (Instr.buildSlice t len (parts.map λ(i,x)=>(i,ck x))) (.slice b 0 len (.exact len)) aT:=by
 obtain⟨v,aC,rfl,af⟩:=k_ (w:=w) a4
 have ag:=(jw μ v).cells af
 have np:¬(len*sz>2^24):=by omega
 have key:∀zero:Array Value,b4 μ (if len*sz=0 then[] else eD len (nc v).cells) ((Array.range (len*sz)).map (λi=>zero[i %zero.size]!)).toList->
   (∀r:Result Value,r=(match Instr.fill (λi=>some (i*sz,sz)) ((Array.range (len*sz)).map (λi=>zero[i %zero.size]!)) (parts.toList.map λp=>(p.1,ck p.2)) with
    |some cells=>do pure (.slice (some (<-_root_.Go.newRow e cells)) len len)
    |none=>stuck "buildSlice: a part of the wrong size" :Sem Value).run P w->(Instr.buildSlice t len (parts.map λ(i,x)=>(i,ck x))).run P w=r)->
   eT P μ H w (Instr.buildSlice t len (parts.map λ(i,x)=>(i,ck x))) (.slice b 0 len (.exact len)) aT:=by
  intro zero lO eH
  obtain⟨c',aa,ad⟩:=vy _ g ck ak parts.toList _ cs _ lO hf
  obtain⟨aN,rfl,bz,cm,cy⟩:=yj (P:=P) aj ad ai
  refine⟨_,_,.slice (some ⟨w.heap.size,0,none⟩) len len,?_,⟨_,bz,by simp[AK]⟩,cm,cy⟩
  refine eH _ ?_
  rw[aa]
  simp[aN]
 by_cases h0:len*sz=0
 · refine key #[] (by rw[if_pos h0,h0];simp[b4]) λr ai=>?_
   rw[ai]
   simp only[Instr.buildSlice,Sem.run_bind,bN hu,Result.andThen_ok,run_sizeOf hs,if_neg np,if_pos h0,Sem.run_pure,Array.toList_map]
   generalize Instr.fill _ _ _=F
   cases F<;>rfl
 · refine key v.cells (by rw[if_neg h0];exact vB ag mG len) λr ai=>?_
   rw[ai]
   simp only[Instr.buildSlice,Sem.run_bind,bN hu,Result.andThen_ok,run_sizeOf hs,if_neg np,if_neg h0,Sem.run_pure,Array.toList_map,aC]
   generalize Instr.fill _ _ _=F
   cases F<;>rfl
end
end aB
namespace aB
open Go
theorem rH(n:Nat)(h:n<9223372036854775808):IntKind.wrap .i64 (n:Int)=(n:Int):=by
 have e:((n:Int) %18446744073709551616)=n:=by omega
 have ay:(2:Int)^64=18446744073709551616:=by rfl
 have bF:(2:Int)^63=9223372036854775808:=by rfl
 simp only[IntKind.wrap,IntKind.bits,IntKind.signed,ay,bF,e,Bool.true_and,decide_eq_true_eq,Nat.add_one_sub_one]
 rw[if_neg (by show¬((2:Int)^63<=n);rw[bF];omega)]
section
variable {P:Program} {μ:bg} {H:J} {w:World}
theorem LM(aj:bn μ H w){t e:TypeId}{l c:Nat}{i:TypeInfo}{z:I}{kl kc:IntKind}(hu:P.underlying t=some (.slice e))(ae:P.info? e=some i)(a4:ea P e=some z)(qb:l<=c)
  (tD:c*(i.bytes+1)<=1099511627776)(mG:z.cells.length=i.size){b:Nat}{aT:J}(ai:newRow H e (if c*i.size=0 then[] else eD c z.cells)=some (b,aT)):
  eT P μ H w (Instr.makeSlice t (.int kl l) (.int kc c)) (.slice b 0 l (.exact c)) aT:=by
 obtain⟨v,aC,rfl,af⟩:=k_ (w:=w) a4
 have ag:=(jw μ v).cells af
 have AQ:c<=1099511627776:=Nat.le_trans (Nat.le_mul_of_pos_right c (by omega)) tD
 have ke:i.bytes*c<=1099511627776:=by
  have:c*i.bytes<=c*(i.bytes+1):=Nat.mul_le_mul_left c (by omega)
  rw[Nat.mul_comm];omega
 have vC:∀n:Nat,n<=1099511627776->IntKind.wrap .i64 (n:Int)=(n:Int):=λn aI=>rH n (by omega)
 have hZ:=vC l (by omega)
 have vD:=vC c AQ
 have rI:¬((c:Int)<0||(i.bytes:Int)*(c:Int)>2^48||(l:Int)<0||(l:Int)>(c:Int))=true:=by
  have aa:((i.bytes:Int)*(c:Int))<=1099511627776:=by
   have h0:((i.bytes*c:Nat):Int)<=1099511627776:=by omega
   rw[Int.natCast_mul] at h0;exact h0
  have ad:(2:Int)^48=281474976710656:=by rfl
  generalize (i.bytes:Int)*(c:Int)=q at aa⊢
  rw[ad]
  simp only[Bool.or_eq_true,decide_eq_true_eq]
  omega
 have key:∀zero:Array Value,b4 μ (if c*i.size=0 then[] else eD c (nc v).cells) ((Array.range (c*i.size)).map (λj=>zero[j %zero.size]!)).toList->
   (Instr.makeSlice t (.int kl l) (.int kc c)).run P w=(do let a<-_root_.Go.newRow e ((Array.range (c*i.size)).map (λj=>zero[j %zero.size]!));pure (.slice (some a) l c):Sem Value).run P w->
   eT P μ H w (Instr.makeSlice t (.int kl l) (.int kc c)) (.slice b 0 l (.exact c)) aT:=by
  intro zero lO eH
  obtain⟨aN,rfl,bz,cm,cy⟩:=yj (P:=P) aj lO ai
  refine⟨_,_,.slice (some ⟨w.heap.size,0,none⟩) l c,?_,⟨_,bz,by simp[AK]⟩,cm,cy⟩
  rw[eH]
  simp only[Sem.run_bind,Sem.run_pure]
  have:(⟨((Array.range (c*i.size)).map (λj=>zero[j %zero.size]!)).toList⟩:Array Value)=((Array.range (c*i.size)).map (λj=>zero[j %zero.size]!)):=rfl
  rw[this] at aN
  rw[aN];rfl
 have bH:(_root_.Go.sizeOf e).run P w=.ok i.size w:=by simp[_root_.Go.sizeOf,run_typeInfo ae]
 by_cases h0:c*i.size=0
 · refine key #[] (by rw[if_pos h0,h0];simp[b4]) ?_
   simp only[Instr.makeSlice,Sem.run_bind,bN hu,Result.andThen_ok,asInt,asIntOf,Sem.run_pure,run_typeInfo ae,hZ,vD]
   rw[if_neg rI]
   simp[bH,h0]
 · refine key v.cells (by rw[if_neg h0];exact vB ag mG c) ?_
   simp only[Instr.makeSlice,Sem.run_bind,bN hu,Result.andThen_ok,asInt,asIntOf,Sem.run_pure,run_typeInfo ae,hZ,vD]
   rw[if_neg rI]
   simp[bH,h0,aC]
theorem LN{x:I}{v:Value}(aC:a9 μ x v)(ab:(∃b o,x=.ptr b o)\/(∃b o n c,x=.slice b o n c)\/(∃f a b,x=.fn f a b)\/∃t y,x=.iface t y):
  ∀(o:Oper) (op:Operand) (ck:Operand->Value),ck op=v->o.op=.nilCheck op->(execOp ck o).run P w=.ok (.value v) w:=by
 intro o op ck LO a7
 simp only[execOp,a7,LO]
 rcases ab with⟨b,o',rfl⟩|⟨b,o',n,c,rfl⟩|⟨f,a,b,rfl⟩|⟨t,y,rfl⟩
 · obtain⟨i,_,rfl⟩:=aC;rfl
 · obtain⟨i,_,ag⟩:=aC
   cases c with
   |exact c=>cases ag;rfl
   |aS fP=>obtain⟨c,rfl,_⟩:=ag;rfl
   |dead=>obtain⟨_,a,c,rfl⟩:=ag;rfl
 · obtain⟨cc,cs,rfl,_,_⟩:=aC;rfl
 · obtain⟨LP,rfl,_⟩:=aC;rfl
theorem LQ(op:BinOp)(t:TypeId)(k:IntKind)(x y:Int)(fD:op≠ .shl/\op≠ .shr):binOp op t (.int k x) (.int k y)=match op with
  |.add|.sub|.mul=>Op.intArith op k x y
  |.quo|.rem=>Op.intDiv op k x y
  |.and|.or|.xor|.andNot=>Op.intBits op k x y
  |_=>Op.intCmp op x y:=by
 cases op<;>first
  |(exact absurd rfl fD.1)
  |(exact absurd rfl fD.2)
  |simp[binOp]
theorem LR{op:BinOp}{k:IntKind}{x y:Int}{v:I}(h:arith op k x y=some v)(fD:op≠ .shl/\op≠ .shr)(t:TypeId):
  ∃u,(binOp op t (.int k x) (.int k y)).run P w=.ok u w/\a9 μ v u:=by
 rw[LQ op t k x y fD]
 cases op<;>simp only[arith] at h
 case shl=>cases h
 case shr=>cases h
 case quo=>
  split at h
  · cases h
  · rename_i a2;cases h;exact⟨_,by simp only[Op.intDiv,if_neg a2];rfl,rfl⟩
 case rem=>
  split at h
  · cases h
  · rename_i a2;cases h;exact⟨_,by simp only[Op.intDiv,if_neg a2];rfl,rfl⟩
 all_goals (cases h;exact⟨_,rfl,rfl⟩)
theorem E6{op:BinOp}{k ff:IntKind}{x y:Int}{v:I}(h:mw op k x y=some v)(t:TypeId):
  ∃u,(binOp op t (.int k x) (.int ff y)).run P w=.ok u w/\a9 μ v u:=by
 unfold mw at h
 split at h
 · cases h
 · rename_i a2
   cases op<;>simp only[] at h<;>first
    |(cases h;done)
    |(cases h;exact⟨_,by simp[binOp,Op.shift,a2],rfl⟩)
theorem E7(b:ByteArray):∀(n i:Nat) (r:List UInt8),b.size-i=n->ByteArray.toList.loop b i r=r.reverse++b.data.toList.drop i
 |0,i,r,h=>by
  rw[ByteArray.toList.loop]
  have hs:b.data.toList.length=b.size:=Array.length_toList
  rw[if_neg (by omega),List.drop_eq_nil_of_le (by omega)];simp
 |n+1,i,r,h=>by
  rw[ByteArray.toList.loop]
  have hs:b.data.toList.length=b.size:=Array.length_toList
  rw[if_pos (by omega),E7 b n (i+1) _ (by omega)]
  rw[List.drop_eq_getElem_cons (i:=i) (by omega)]
  have:b.get! i=b.data.toList[i]'(by omega):=by
   have ad:i<b.data.size:=by have:=Array.length_toList (xs:=b.data);omega
   show b.data[i]! =_
   rw[getElem!_pos b.data i ad];simp
  simp[this]
theorem qc(s:ByteArray):s.toList=s.data.toList:=by
 unfold ByteArray.toList
 rw[E7 s _ 0 [] rfl];simp
theorem n8:∀a b:List UInt8,dU a b=(a==b)
 |[],[]=>rfl
 |[],_::_=>rfl
 |_::_,[]=>rfl
 |a::x,b::y=>by
  have bd:=n8 x y
  simp only[dU,List.cons_beq_cons]
  cases e:Nat.beq a.toNat b.toNat with
  |true=>
   have:a=b:=UInt8.toNat_inj.1 (Nat.eq_of_beq_eq_true e)
   subst this;simp[bd]
  |false=>
   have:(a==b)=false:=by
    rw[beq_eq_false_iff_ne];intro h;subst h;simp at e
   simp[this]
theorem AR:∀a b:List UInt8,dB a b=Op.bytesLess a b
 |[],[]=>rfl
 |[],_::_=>rfl
 |_::_,[]=>rfl
 |a::x,b::y=>by
  have bd:=AR x y
  simp only[dB,Op.bytesLess]
  cases e:Nat.beq a.toNat b.toNat with
  |true=>
   have:a=b:=UInt8.toNat_inj.1 (Nat.eq_of_beq_eq_true e)
   subst this;simp[bd]
  |false=>
   have aa:(a==b)=false:=by
    rw[beq_eq_false_iff_ne];intro h;subst h;simp at e
   have ad:decide (a<b)=Nat.blt a.toNat b.toNat:=by
    rw[Bool.eq_iff_iff];simp[UInt8.lt_iff_toNat_lt]
   simp[aa,ad]
theorem E8:∀a b:List UInt8,(Op.bytesLess a b||(a==b))=!Op.bytesLess b a
 |[],[]=>rfl
 |[],_::_=>rfl
 |_::_,[]=>rfl
 |a::x,b::y=>by
  have bd:=E8 x y
  simp only[Op.bytesLess,List.cons_beq_cons]
  by_cases h:a=b
  · subst h
    have:¬(a<a):=UInt8.lt_irrefl a
    simpa[this] using bd
  · have dk:(a==b)=false:=beq_eq_false_iff_ne.2 h
    have LS:(b==a)=false:=beq_eq_false_iff_ne.2 (λe=>h e.symm)
    simp only[dk,LS,Bool.false_and,Bool.or_false]
    rw[Bool.eq_iff_iff]
    simp only[decide_eq_true_eq,Bool.not_eq_true',decide_eq_false_iff_not,UInt8.lt_iff_toNat_lt]
    have:a.toNat≠b.toNat:=λe=>h (UInt8.toNat_inj.1 e)
    omega
theorem LU{op:BinOp}{a b:ByteArray}{v:I}(h:eA op a.data.toList b.data.toList=some v)(t:TypeId):∃u,(binOp op t (.string a) (.string b)).run P w=.ok u w/\a9 μ v u:=by
 have ba:=qc a
 have af:=qc b
 have aa:=n8 a.data.toList b.data.toList
 have ad:=AR a.data.toList b.data.toList
 have aw:=AR b.data.toList a.data.toList
 have aU:=E8 a.data.toList b.data.toList
 have vE:a.data.toList.length=a.size:=Array.length_toList
 have LV:b.data.toList.length=b.size:=Array.length_toList
 cases op<;>simp only[eA] at h
 case add=>
  split at h
  · cases h
  · rename_i aq
    cases h
    refine⟨.string (a++b),?_,⟨a++b,rfl,by simp[ByteArray.data_append]⟩⟩
    rw[vE,LV] at aq
    simp only[binOp,Op.stringOp]
    rw[if_neg aq];rfl
 case eql=>cases h;exact⟨_,rfl,congrArg Value.bool (by rw[ba,af,aa])⟩
 case neq=>cases h;exact⟨_,rfl,congrArg Value.bool (by rw[ba,af,aa])⟩
 case lss=>cases h;exact⟨_,rfl,congrArg Value.bool (by rw[ba,af,ad])⟩
 case leq=>cases h;exact⟨_,rfl,congrArg Value.bool (by rw[ba,af,aw];exact aU)⟩
 case gtr=>cases h;exact⟨_,rfl,congrArg Value.bool (by rw[ba,af,aw,aU,Bool.not_not])⟩
 case geq=>cases h;exact⟨_,rfl,congrArg Value.bool (by rw[ba,af,ad])⟩
 all_goals cases h
def mH(μ:bg):Option I->Option Value->Prop
 |none,none=>True
 |some a,some v=>a9 μ a v
 |_,_=>False
theorem mH.map(g:Operand->I)(ck:Operand->Value)(ak:∀x,a9 μ (g x) (ck x))(o:Option Operand):mH μ (o.map g) (o.map ck):=by
 cases o with
 |none=>trivial
 |some x=>exact ak x
theorem E9{a:I}{n:Nat}(h:fo a=some n){v:Value}(aC:a9 μ a v):∃k,v=.int k (n:Int):=by
 unfold fo at h
 split at h
 · rename_i k m;cases h;exact⟨k,aC⟩
 · cases h
theorem AS{n y:Nat}{k:IntKind}(h:n<=y)(c:BoundsCode):(Instr.sliceBound (.int k (n:Int)) y c).run P w=.ok n w:=by
 simp only[Instr.sliceBound,asIntOf,Sem.run_bind,Sem.run_pure,Result.andThen_ok]
 rw[if_pos ⟨by omega,by omega⟩]
 simp
theorem E_{d n:Nat}{o:Option I}{o':Option Value}(h:jo d o=some n)(ai:mH μ o o'):(o'=none/\n=d/\o=none)\/∃k a,o=some a/\o'=some (.int k (n:Int)):=by
 cases o with
 |none=>cases o' with
  |none=>simp[jo] at h;exact .inl ⟨rfl,h.symm,rfl⟩
  |some _=>exact ai.elim
 |some a=>cases o' with
  |none=>exact ai.elim
  |some v=>obtain⟨k,e⟩:=E9 (μ:=μ) h ai;exact .inr ⟨k,a,rfl,by rw[e]⟩
theorem nq{len cap l h m:Nat}{bk ae mx:Option I}{qd dV mx':Option Value}(lP:mH μ bk qd)(jx:mH μ ae dV)(hQ:mH μ mx mx')
  (af:bounds len cap bk ae mx=some (l,h,m))(b:Bool):(Instr.sliceBounds b len cap qd dV mx').run P w=.ok (l,h,m) w/\l<=h/\h<=m/\m<=cap/\(mx=none->m=cap):=by
 unfold bounds at af
 cases em:jo cap mx with
 |none=>rw[em] at af;cases af
 |some cM=>
  rw[em] at af
  simp only at af
  cases hm:Nat.ble cM cap with
  |false=>rw[hm] at af;cases af
  |true=>
   rw[hm] at af
   simp only at af
   have AT:=Nat.le_of_ble_eq_true hm
   split at af
   · cases af
   · rename_i aj yk
     cases AU:Nat.ble aj cM with
     |false=>rw[AU] at af;cases af
     |true=>
      rw[AU] at af
      simp only at af
      have Fa:=Nat.le_of_ble_eq_true AU
      cases el:jo 0 bk with
      |none=>rw[el] at af;cases af
      |some bl=>
       rw[el] at af
       simp only at af
       cases aq:Nat.ble bl aj with
       |false=>rw[aq] at af;cases af
       |true=>
        rw[aq] at af
        simp only[Option.some.injEq,Prod.mk.injEq] at af
        obtain⟨rfl,rfl,rfl⟩:=af
        have yl:=Nat.le_of_ble_eq_true aq
        have LW:(dV=none/\mx'=none/\aj=len)\/∃k,dV=some (.int k (aj:Int)):=by
         cases ae with
         |none=>cases dV with
          |some _=>exact jx.elim
          |none=>cases mx with
           |some _=>simp at yk
           |none=>cases mx' with
            |some _=>exact hQ.elim
            |none=>simp at yk;exact .inl ⟨rfl,rfl,yk.symm⟩
         |some a=>cases dV with
          |none=>exact jx.elim
          |some v=>
           have fZ:fo a=some aj:=by cases mx<;>simpa using yk
           obtain⟨k,e⟩:=E9 (μ:=μ) fZ jx
           exact .inr ⟨k,by rw[e]⟩
        refine⟨?_,yl,Fa,AT,λe=>by rw[e] at em;simp[jo] at em;exact em.symm⟩
        rcases E_ em hQ with⟨ax,ay,_⟩|⟨bQ,_,_,ax⟩<;>rcases LW with⟨bF,en,k9⟩|⟨cl,bF⟩<;>rcases E_ el lP with⟨fC,e6,_⟩|⟨fr,_,_,fC⟩<;>
         first
         |(exfalso;simp[ax] at en;done)
         |(subst_vars;simp[Instr.sliceBounds,AS AT,AS Fa,AS yl])
end
end aB
namespace aB
open Go
section
variable {P:Program} {μ:bg} {H:J} {w:World}
theorem LX(t:ByteArray)(l h:Nat)(aj:h<=t.size):(t.extract l h).data.toList=List.take (h-l) (ho l t.data.toList):=by
 rw[mE]
 simp only[ByteArray.data_extract,Array.toList_extract,List.extract_eq_take_drop]
theorem vF{m n:Nat}(h:m<=n):Nat.ble m n=true:=Nat.ble_eq_true_of_le h
theorem AV{len k c:Nat}{bk ae mx:Option I}{l h m:Nat}(af:bounds len k bk ae mx=some (l,h,m))(av:k<=c):bounds len c bk ae mx=some (l,h,if mx.isNone then c else m):=by
 have fin:∀(cM ic:Nat) (E:Option Nat),cM<=ic->
   (match E with
   |none=>none
   |some aj=>match Nat.ble aj cM with
    |false=>none
    |true=>match jo 0 bk with
     |none=>none
     |some l=>match Nat.ble l aj with
      |false=>none
      |true=>some (l,aj,cM))=some (l,h,m)->
   (match E with
   |none=>none
   |some aj=>match Nat.ble aj ic with
    |false=>none
    |true=>match jo 0 bk with
     |none=>none
     |some l=>match Nat.ble l aj with
      |false=>none
      |true=>some (l,aj,ic))=some (l,h,ic):=by
  intro cM ic E hm fs
  cases E with
  |none=>cases fs
  |some aj=>
   simp only at fs⊢
   cases aa:Nat.ble aj cM with
   |false=>rw[aa] at fs;cases fs
   |true=>
    rw[aa] at fs
    rw[vF (Nat.le_trans (Nat.le_of_ble_eq_true aa) hm)]
    simp only at fs⊢
    cases aq:jo 0 bk with
    |none=>rw[aq] at fs;cases fs
    |some bl=>
     rw[aq] at fs
     simp only at fs⊢
     cases aQ:Nat.ble bl aj with
     |false=>rw[aQ] at fs;cases fs
     |true=>rw[aQ] at fs;simp only[Option.some.injEq,Prod.mk.injEq] at fs⊢;exact⟨fs.1,fs.2.1,trivial⟩
 unfold bounds at af⊢
 cases mx with
 |none=>
  have ax:jo k none=some k:=rfl
  have ay:jo c none=some c:=rfl
  rw[ax] at af;rw[ay]
  simp only at af⊢
  rw[vF (Nat.le_refl k)] at af;rw[vF (Nat.le_refl c)]
  simp only[Option.isNone_none,if_true] at af⊢
  cases ae with
  |none=>exact fin k c (some len) av af
  |some a=>exact fin k c (fo a) av af
 |some rJ=>
  have ax:jo k (some rJ)=fo rJ:=rfl
  have ay:jo c (some rJ)=fo rJ:=rfl
  rw[ax] at af;rw[ay]
  cases em:fo rJ with
  |none=>rw[em] at af;cases af
  |some cM=>
   rw[em] at af
   simp only at af⊢
   cases aa:Nat.ble cM k with
   |false=>rw[aa] at af;cases af
   |true=>
    rw[aa] at af
    rw[vF (Nat.le_trans (Nat.le_of_ble_eq_true aa) av)]
    simp only[Option.isNone_some,Bool.false_eq_true,if_false] at af⊢
    have LY:cM=m:=by
     cases ae<;>simp only at af
     · cases af
     · split at af<;>try cases af
       split at af<;>try cases af
       split at af<;>try cases af
       split at af<;>first|cases af;rfl|cases af
    subst LY
    cases ae<;>exact af
theorem LZ(aj:bn μ H w){t:TypeId}{x:I}{br:Value}(ab:a9 μ x br){bk ae mx:Option I}{qd dV mx':Option Value}(lP:mH μ bk qd)(jx:mH μ ae dV)(hQ:mH μ mx mx'){v:I}
  (h:e1 P H t x bk ae mx=some v):eT P μ H w (Instr.sliceAt t br qd dV mx') v H:=by
 unfold e1 at h
 split at h
 ·
  rename_i s hu
  obtain⟨bs,rfl,rfl⟩:=ab
  cases mx with
  |some _=>cases h
  |none=>
   simp only at h
   cases mx' with
   |some _=>exact hQ.elim
   |none=>
    split at h
    · rename_i l af m gX
      cases h
      have bH:bs.data.toList.length=bs.size:=Array.length_toList
      rw[bH] at gX
      obtain⟨r1,r2,gB,h1,_⟩:=nq (P:=P) (w:=w) lP jx (μ:=μ) (mx:=none) (mx':=none) trivial gX false
      refine .same aj (v':=.string (bs.extract l af)) ?_ ⟨_,rfl,LX _ _ _ (by omega)⟩
      simp[Instr.sliceAt,Instr.slice,bN hu,r1]
    · cases h
 ·
  rename_i e hu
  cases ab
  split at h
  · rename_i sz r hs gX
    cases h
    obtain⟨l,af,m⟩:=r
    obtain⟨r1,r2,gB,h1,_⟩:=nq (P:=P) (w:=w) lP jx hQ gX true
    have:m=0/\l=0/\af=0:=by omega
    obtain⟨rfl,rfl,rfl⟩:=this
    exact .same aj (v':=.slice none 0 0) (by simp[Instr.sliceAt,Instr.slice,bN hu,r1,run_sizeOf hs]) rfl
  · cases h
 ·
  rename_i e b off len cap hu
  obtain⟨i,mI,ag⟩:=ab
  cases ag
  split at h
  · rename_i sz l af m hs gX
    cases h
    obtain⟨r1,r2,gB,h1,_⟩:=nq (P:=P) (w:=w) lP jx hQ gX true
    refine .same aj (v':=.slice (some ⟨i.bb,i.base+(if m=l then off else off+l*sz),none⟩) (af-l) (m-l)) ?_ ⟨i,mI,rfl⟩
    by_cases e:m=l
    · simp[Instr.sliceAt,Instr.slice,bN hu,r1,run_sizeOf hs,e]
    · simp[Instr.sliceAt,Instr.slice,bN hu,r1,run_sizeOf hs,e,add_plain,Nat.add_assoc]
  · cases h
 ·
  rename_i e b off len fP hu
  obtain⟨i,mI,c,rfl,qb,bH⟩:=ab
  split at h
  · rename_i sz hs
    split at h
    · rename_i L0
      subst L0
      cases mx with
      |none=>
       cases mx' with
       |some _=>exact hQ.elim
       |none=>
        simp only at h
        split at h
        · rename_i l af m gX
          have vG:bounds len c bk ae none=some (l,af,c):=AV gX qb
          obtain⟨r1,r2,gB,h1,_⟩:=nq (P:=P) (w:=w) lP jx (μ:=μ) (mx:=none) (mx':=none) trivial vG true
          obtain⟨_,aY,cw,jQ,_⟩:=nq (P:=P) (w:=w) lP jx (μ:=μ) (mx:=none) (mx':=none) trivial gX true
          have eH:(Instr.sliceAt t (.slice (some ⟨i.bb,i.base+off,none⟩) len c) qd dV none).run P w=.ok (.slice (some (if c=l then⟨i.bb,i.base+off,none⟩ else⟨i.bb,i.base+off+l*sz,none⟩)) (af-l) (c-l)) w:=by
           by_cases e:c=l
           · subst e;simp[Instr.sliceAt,Instr.slice,bN hu,r1,run_sizeOf hs]
           · simp[Instr.sliceAt,Instr.slice,bN hu,r1,run_sizeOf hs,e,add_plain]
          split at h
          · rename_i AW
            subst AW
            cases h
            refine .same aj eH ⟨i,mI,c,?_,by omega,bH⟩
            by_cases e:c=0
            · simp[e]
            · simp[e]
          · rename_i AW
            split at h
            · rename_i cu
              cases h
              simp only[Nat.blt_eq] at cu
              refine .same aj eH ⟨i,mI,c-l,?_,by omega,?_⟩
              · rw[if_neg (by omega)];simp[Nat.add_assoc]
              · have:c*sz=l*sz+(c-l)*sz:=by rw[<-Nat.add_mul];congr 1;omega
                omega
            · rename_i cu
              cases h
              have AX:¬l<len:=by simpa[Nat.blt_eq] using cu
              have h0:af-l=0:=by omega
              rw[h0] at eH
              exact .same aj eH ⟨i,mI,rfl,_,c-l,rfl⟩
        · cases h
      |some rJ=>
       simp only at h
       split at h
       · rename_i l af m gX
         cases h
         obtain⟨_,aY,cw,jQ,_⟩:=nq (P:=P) (w:=w) lP jx hQ gX true
         have vG:bounds len c bk ae (some rJ)=some (l,af,m):=AV gX qb
         obtain⟨r1,r2,gB,h1,_⟩:=nq (P:=P) (w:=w) lP jx hQ vG true
         refine .same aj (v':=.slice (some ⟨i.bb,i.base+(if m=l then off else off+l*sz),none⟩) (af-l) (m-l)) ?_ ⟨i,mI,rfl⟩
         by_cases e:m=l
         · simp[Instr.sliceAt,Instr.slice,bN hu,r1,run_sizeOf hs,e]
         · simp[Instr.sliceAt,Instr.slice,bN hu,r1,run_sizeOf hs,e,add_plain,Nat.add_assoc]
       · cases h
    · cases h
  · cases h
 ·
  rename_i e b off len hu
  obtain⟨i,mI,rfl,a,c,rfl⟩:=ab
  split at h
  · rename_i sz r hs gX
    cases h
    obtain⟨l,af,m⟩:=r
    obtain⟨_,aY,cw,jQ,jR⟩:=nq (P:=P) (w:=w) lP jx hQ gX true
    have:m=0/\l=0/\af=0:=by omega
    obtain⟨rfl,rfl,rfl⟩:=this
    have vG:bounds 0 c bk ae mx=some (0,0,(if mx.isNone then c else 0)):=AV gX (Nat.zero_le _)
    obtain⟨r1,r2,gB,h1,_⟩:=nq (P:=P) (w:=w) lP jx hQ vG true
    refine .same aj (v':=.slice (some a) 0 ((if mx.isNone then c else 0)-0)) ?_ ⟨i,mI,rfl,a,_,rfl⟩
    have ba:a.add (0*sz)=a:=by simp[Addr.add]
    simp[Instr.sliceAt,Instr.slice,bN hu,r1,run_sizeOf hs,Addr.add]
  · cases h
 ·
  rename_i n e b off hu
  obtain⟨i,mI,rfl⟩:=ab
  split at h
  · rename_i sz l af m hs gX
    cases h
    obtain⟨r1,r2,gB,h1,_⟩:=nq (P:=P) (w:=w) lP jx hQ gX false
    refine .same aj (v':=.slice (some ⟨i.bb,i.base+(if m=l then off else off+l*sz),none⟩) (af-l) (m-l)) ?_ ⟨i,mI,rfl⟩
    by_cases e:m=l
    · simp[Instr.sliceAt,Instr.sureAddr,bN hu,r1,run_sizeOf hs,e]
    · simp[Instr.sliceAt,Instr.sureAddr,bN hu,r1,run_sizeOf hs,e,add_plain,Nat.add_assoc]
  · cases h
 ·
  rename_i arr b off hu
  obtain⟨i,mI,rfl⟩:=ab
  split at h
  · rename_i n e n9
    split at h
    · rename_i sz l af m hs gX
      cases h
      obtain⟨r1,r2,gB,h1,_⟩:=nq (P:=P) (w:=w) lP jx hQ gX false
      refine .same aj (v':=.slice (some ⟨i.bb,i.base+(if m=l then off else off+l*sz),none⟩) (af-l) (m-l)) ?_ ⟨i,mI,rfl⟩
      by_cases e:m=l
      · simp[Instr.sliceAt,Instr.slice,asAddr,bN hu,bN n9,r1,run_sizeOf hs,e]
      · simp[Instr.sliceAt,Instr.slice,asAddr,bN hu,bN n9,r1,run_sizeOf hs,e,add_plain,Nat.add_assoc]
    · cases h
  · cases h
 · cases h
theorem qe{t:TypeId}{off:Nat}{cs:List I}{l:List Value}(aq:b4 μ cs l){v:I}(h:kx P t cs off=some v):∃u,(part t ⟨l⟩ off).run P w=.ok u w/\a9 μ v u:=by
 unfold kx at h
 split at h
 · rename_i n ba aI
   split at h
   · rename_i r ai
     cases h
     rw[mE] at ai
     obtain⟨aa,rfl⟩:=rG _ _ _ ai
     refine⟨.agg ⟨(l.drop off).take n⟩,?_,⟨_,rfl,?_⟩⟩
     · simp[part,tC ba,run_sizeOf aI,List.extract_eq_take_drop]
     · refine b4.vr (by have:=aq.length;simp[this]) λj a aG=>?_
       rw[List.getElem?_take] at aG⊢
       split at aG
       · rename_i tE
         rw[if_pos tE]
         rw[List.getElem?_drop] at aG⊢
         exact aq.get aG
       · cases aG
   · cases h
 · rename_i _ ba
   rw[o2] at h
   obtain⟨u,hu,ai⟩:=aq.get h
   refine⟨u,?_,ai⟩
   simp[part,tC ba,hu]
 · cases h
theorem L1(aj:bn μ H w){t:TypeId}{cc:Array Field}{fd:Field}{f:Nat}(hu:P.underlying t=some (.struct cc))(hf:cc[f]? =some fd){cs:List I}{br:Value}(ab:a9 μ (.agg cs) br){v:I}
  (h:kx P fd.type cs fd.offset=some v):eT P μ H w (Instr.field t br f) v H:=by
 obtain⟨l,rfl,aq⟩:=ab
 obtain⟨u,aa,ad⟩:=qe (P:=P) (w:=w) aq h
 exact .same aj (v':=u) (by simp[Instr.field,bN hu,hf,asAgg,aa]) ad
theorem L2(aj:bn μ H w){s:TypeId}{cc:Array Field}{fd:Field}{f n b off:Nat}(hu:P.underlying s=some (.struct cc))(hf:cc[f]? =some fd)(aI:dd P fd.type=some n)(vH:n≠0){br:Value}
  (ab:a9 μ (.ptr b off) br):eT P μ H w (Instr.fieldAt s br f) (.ptr b (off+fd.offset)) H:=by
 obtain⟨i,ae,rfl⟩:=ab
 refine .same aj (v':=.pointer (some ⟨i.bb,i.base+(off+fd.offset),none⟩)) ?_ ⟨i,ae,rfl⟩
 simp[Instr.fieldAt,bN hu,hf,Instr.sureAddr,fieldPlace,run_sizeOf aI,vH,add_plain,Nat.add_assoc]
theorem L3(aj:bn μ H w){t e:TypeId}{b off n k sz:Nat}{c:ch}{bV:IntKind}(hu:P.underlying t=some (.slice e))(hs:dd P e=some sz){br:Value}(ab:a9 μ (.slice b off n c) br)(av:k<n):
  eT P μ H w (Instr.indexAt t br (.int bV (k:Int))) (.ptr b (off+k*sz)) H:=by
 obtain⟨i,ae,ag⟩:=ab
 have jS:∃cap,br=.slice (some ⟨i.bb,i.base+off,none⟩) n cap:=by
  cases c with
  |exact c=>exact⟨c,ag⟩
  |aS fP=>obtain⟨c,h,_⟩:=ag;exact⟨c,h⟩
  |dead=>obtain⟨h0,_⟩:=ag;omega
 obtain⟨cap,rfl⟩:=jS
 refine .same aj (v':=.pointer (some ⟨i.bb,i.base+(off+k*sz),none⟩)) ?_ ⟨i,ae,rfl⟩
 simp only[Instr.indexAt,asIntOf,Sem.run_bind,Sem.run_pure,Result.andThen_ok,bN hu]
 rw[if_pos ⟨by omega,by omega⟩]
 simp[run_sizeOf hs,add_plain,Nat.add_assoc]
theorem L4(aj:bn μ H w){t e:TypeId}{b off n k sz:Nat}{bV:IntKind}(hu:P.underlying t=some (.array n e))(hs:dd P e=some sz){br:Value}(ab:a9 μ (.ptr b off) br)(av:k<n):
  eT P μ H w (Instr.indexAt t br (.int bV (k:Int))) (.ptr b (off+k*sz)) H:=by
 obtain⟨i,ae,rfl⟩:=ab
 refine .same aj (v':=.pointer (some ⟨i.bb,i.base+(off+k*sz),none⟩)) ?_ ⟨i,ae,rfl⟩
 simp only[Instr.indexAt,asIntOf,Sem.run_bind,Sem.run_pure,Result.andThen_ok,bN hu,Instr.sureAddr]
 rw[if_pos ⟨by omega,by omega⟩]
 simp[run_sizeOf hs,add_plain,Nat.add_assoc]
theorem L5(aj:bn μ H w){t e:TypeId}{n k sz:Nat}{bV:IntKind}{cs:List I}(hu:P.underlying t=some (.array n e))(hs:dd P e=some sz){br:Value}(ab:a9 μ (.agg cs) br)(av:k<n){v:I}
  (h:kx P e cs (k*sz)=some v):eT P μ H w (Instr.index t br (.int bV (k:Int))) v H:=by
 obtain⟨l,rfl,aq⟩:=ab
 obtain⟨u,aa,ad⟩:=qe (P:=P) (w:=w) aq h
 refine .same aj (v':=u) ?_ ad
 simp only[Instr.index,asIntOf,Sem.run_bind,Sem.run_pure,Result.andThen_ok,bN hu]
 rw[if_pos ⟨by omega,by omega⟩]
 simp[run_sizeOf hs,aa]
theorem L6(aj:bn μ H w){t:TypeId}{k:Nat}{bV:IntKind}{s:List UInt8}(hu:P.underlying t=some .string){br:Value}(ab:a9 μ (.str s) br){c:UInt8}(h:nth k s=some c):
  eT P μ H w (Instr.index t br (.int bV (k:Int))) (.int .u8 (Int.ofNat c.toNat)) H:=by
 obtain⟨bs,rfl,rfl⟩:=ab
 rw[o2] at h
 refine .same aj (v':=.int .u8 (c.toNat:Int)) ?_ rfl
 have av:k<bs.data.size:=by
  rcases Nat.lt_or_ge k bs.data.size with an|an
  · exact an
  · rw[List.getElem?_eq_none (by simpa using an)] at h;cases h
 have ak:bs[k]? =some c:=by
  rw[Array.getElem?_toList] at h
  rw[<-h]
  show(if h:k<bs.size then some bs[k] else none)=_
  have e8:k<bs.size:=av
  rw[dif_pos e8,Array.getElem?_eq_getElem av];rfl
 simp only[Instr.index,asIntOf,Sem.run_bind,Sem.run_pure,Result.andThen_ok,bN hu]
 rw[if_pos (by omega)]
 simp[ak]
end
end aB
namespace aB
open Go
section
variable {P:Program} {μ:bg} {H:J} {w:World}
theorem ym(μ:bg):∀l:List UInt8,b4 μ (cP l) (l.map λb=>.int .u8 b.toNat)
 |[]=>rfl
 |b::l=>⟨_,_,rfl,rfl,ym μ l⟩
theorem L7(t:ByteArray):(t.extract 0 t.size)=t:=by
 obtain⟨d⟩:=t
 simp[ByteArray.ext_iff,ByteArray.data_extract,ByteArray.size]
theorem yn(aj:bn μ H w){size n:Nat}{x:I}{br:Value}(ab:a9 μ x br){cs:List I}(h:hW H size x=some (n,cs)):
  (Builtin.lenOf br).run P w=.ok n w/\(∃us:List Value,(Builtin.firstCells size n br).run P w=.ok ⟨us⟩ w/\b4 μ cs us):=by
 cases x<;>simp only[hW] at h<;>try cases h
 · split at h<;>try cases h
   obtain⟨bs,rfl,rfl⟩:=ab
   refine⟨by rw[show bs.data.toList.length=bs.size from Array.length_toList];rfl,_,?_,ym μ _⟩
   have bH:bs.data.toList.length=bs.size:=Array.length_toList
   simp only[Builtin.firstCells,Sem.run_pure,bH,L7]
   congr 1
   apply Array.ext'
   simp
 · cases ab
   exact⟨rfl,[],rfl,rfl⟩
 · rename_i b off len cap
   obtain⟨i,ae,ag⟩:=ab
   cases cap with
   |dead=>
    obtain⟨rfl,a,c,rfl⟩:=ag
    simp at h
    obtain⟨rfl,rfl⟩:=h
    exact⟨rfl,[],by simp[Builtin.firstCells,_root_.Go.loadCells,loadCellsFrom],rfl⟩
   |exact c=>
    cases ag
    simp only at h
    split at h
    · rename_i bX aq
      cases h
      obtain⟨us,aa,ad⟩:=p8 (P:=P) aj ae aq
      exact⟨rfl,us,by simp only[Builtin.firstCells];exact aa,ad⟩
    · cases h
   |aS fP=>
    obtain⟨c,rfl,_⟩:=ag
    simp only at h
    split at h
    · rename_i bX aq
      cases h
      obtain⟨us,aa,ad⟩:=p8 (P:=P) aj ae aq
      exact⟨rfl,us,by simp only[Builtin.firstCells];exact aa,ad⟩
    · cases h
theorem L8{z:Value}(n:Nat){mF:List I}(a4:b4 μ mF z.cells.toList):b4 μ (eD n mF) (Builtin.zeroCells z.cells n).toList:=by
 have:=vB a4 rfl n
 have aq:=a4.length
 have aw:z.cells.toList.length=z.cells.size:=by simp
 rw[aq,aw] at this
 exact this
theorem L9(need old:Nat)(h:old<need):Builtin.nextslicecap need old<=4*need+2048:=by
 unfold Builtin.nextslicecap
 split
 · omega
 · split
   · omega
   · have ak:∀rounds c,c<=2*need+768->(∀k,k<=rounds->True)->Builtin.growBy need rounds c<=4*need+2048:=by
       intro rounds
       induction rounds with
       |zero=>intro c ag _;simp only[Builtin.growBy];omega
       |succ r bd=>
        intro c ag _
        simp only[Builtin.growBy]
        split
        · omega
        · rename_i cu
          exact bd _ (by omega) (λ_ _=>trivial)
     exact ak 4 old (by omega) (λ_ _=>trivial)
theorem bn.L_{w':World}(h:bn μ H w){b:Nat}{o o':cp}{i:dY}(af:H.get b=some o)(gV:o.mD=false)(ae:μ b=some i)
  (hs:w'.heap.size=w.heap.size)(a7:∀r,r≠i.bb->w'.heap[r]? =w.heap[r]?)(vu:w'.os=w.os)(vw:w'.output=w.output)(AO:w'.tape=w.tape)(base sz:Nat)
  (ai:mC (fH μ H.n ⟨i.bb,base,sz⟩) o' ⟨i.bb,base,sz⟩ w')(hdr:w.drawn<=w'.drawn:=by first|exact Nat.le_refl _|assumption):
  bn (fH μ H.n ⟨i.bb,base,sz⟩) ((H.set b none).push o') w'/\b5 μ H w (fH μ H.n ⟨i.bb,base,sz⟩) ((H.set b none).push o') w':=by
 have hle:=h.nm ⟨i.bb,base,sz⟩
 have Fb:b<H.n:=(h.lt b i ae).1
 have tB:H.get b≠none:=by rw[af];simp
 have fi:∀c,((H.set b none).push o').get c=if c=H.n then some o' else if c=b then none else H.get c:=λc=>by
  rw[J.eB,J.b2];rfl
 have o1:∀c,c<H.n->((H.set b none).push o').get c≠none->c≠b/\H.get c≠none:=λc ag aI=>by
  rw[fi,if_neg (by omega)] at aI
  by_cases e:c=b
  · rw[if_pos e] at aI;exact absurd rfl aI
  · rw[if_neg e] at aI;exact⟨e,aI⟩
 constructor
 · refine⟨λc nn j ag aG=>?_,λc d j k ag aA aG av e=>?_,λc j aG=>?_,λc ag=>?_⟩
   · rw[fi] at ag
     by_cases e:c=H.n
     · rw[if_pos e] at ag;subst e;cases ag;rw[fI] at aG;cases aG;exact ai
     · rw[if_neg e] at ag;rw[gK _ _ e] at aG
       by_cases ay:c=b
       · rw[if_pos ay] at ag;cases ag
       · rw[if_neg ay] at ag
         exact(h.rel c nn j ag aG).mono hle (a7 _ λcR=>ay (h.inj c b j i (by rw[ag];simp) ⟨o,af,gV⟩ aG ae cR))
   · have side:∀c j,c≠H.n->((H.set b none).push o').get c≠none->fH μ H.n ⟨i.bb,base,sz⟩ c=some j->j.bb≠i.bb:=λc j Fc ag aG e=>by
       rw[gK _ _ Fc] at aG
       obtain⟨aV,aY⟩:=o1 c (h.lt c j aG).1 ag
       exact aV (h.inj c b j i aY ⟨o,af,gV⟩ aG ae e)
     by_cases ax:c=H.n
     · by_cases ay:d=H.n
       · rw[ax,ay]
       · subst ax;rw[fI] at aG;cases aG
         exact absurd e.symm (side d k ay (by obtain⟨x,ab,_⟩:=aA;rw[ab];simp) av)
     · by_cases ay:d=H.n
       · subst ay;rw[fI] at av;cases av
         exact absurd e (side c j ax ag aG)
       · rw[gK _ _ ax] at aG;rw[gK _ _ ay] at av
         exact h.inj c d j k (o1 c (h.lt c j aG).1 ag).2 (by
          obtain⟨x,ab,n6⟩:=aA
          rw[fi,if_neg ay] at ab
          split at ab
          · cases ab
          · exact⟨x,ab,n6⟩) aG av e
   · by_cases e:c=H.n
     · subst e;rw[fI] at aG;cases aG
       have:=(h.lt b i ae).2
       exact⟨by simp,by rw[hs];exact this⟩
     · rw[gK _ _ e] at aG
       have:=h.lt c j aG
       exact⟨by simp;omega,by rw[hs];exact this.2⟩
   · simp at ag
     rw[fi,if_neg (by omega),if_neg (by omega)];exact h.bound c (by omega)
 · refine⟨hle,by omega,by simp,λc ag aI=>(o1 c ag aI).2,λc ag hm=>(by rw[fi,if_neg (by omega),if_neg];intro e;subst e;rw[ae] at hm;cases hm),λr _ aI=>a7 r λe=>aI b i tB ae e.symm,λc j aa ad=>?_,λc nn j ag p5 aG=>?_,vu,vw,AO,hdr⟩
   · by_cases e:c=H.n
     · subst e;rw[fI] at ad;cases ad
       exact⟨Nat.le_refl _,.inr ⟨b,o,i,af,gV,ae,rfl⟩⟩
     · rw[gK _ _ e,aa] at ad;cases ad
   · have dk:c≠b:=by intro e;subst e;rw[af] at ag;cases ag;rw[gV] at p5;cases p5
     have Fc:=(h.lt c j aG).1
     refine⟨by rw[fi,if_neg (by omega),if_neg dk];exact ag,a7 _ λe=>dk (h.inj c b j i (by rw[ag];simp) ⟨o,af,gV⟩ aG ae e)⟩
theorem bn.kill(h:bn μ H w){b:Nat}{o:cp}{i:dY}(af:H.get b=some o)(gV:o.mD=false)(ae:μ b=some i):
  bn μ (H.set b none) w/\b5 μ H w μ (H.set b none) w:=by
 have o1:∀c,(H.set b none).get c≠none->H.get c≠none:=λc aI=>by
  rw[J.b2] at aI
  by_cases e:c=b
  · rw[if_pos e] at aI;exact absurd rfl aI
  · rw[if_neg e] at aI;exact aI
 constructor
 · refine⟨λc nn j ag aG=>?_,λc d j k ag aA=>h.inj c d j k (o1 c ag) (by
     obtain⟨x,ab,n6⟩:=aA
     rw[J.b2] at ab
     split at ab
     · cases ab
     · exact⟨x,ab,n6⟩),h.lt,λc ag=>?_⟩
   · rw[J.b2] at ag
     by_cases e:c=b
     · rw[if_pos e] at ag;cases ag
     · rw[if_neg e] at ag;exact h.rel c nn j ag aG
   · rw[J.b2]
     split
     · rfl
     · exact h.bound c ag
 · refine⟨eF.refl μ,Nat.le_refl _,Nat.le_refl _,λc _ ag=>o1 c ag,λc _ hm=>(by rw[J.b2,if_neg];intro e;subst e;rw[ae] at hm;cases hm),λ_ _ _=>rfl,λc j aa ad=>(by rw[aa] at ad;cases ad),λc nn j ag p5 aG=>⟨?_,rfl⟩,rfl,rfl,rfl,Nat.le_refl _⟩
   have dk:c≠b:=by intro e;subst e;rw[af] at ag;cases ag;rw[gV] at p5;cases p5
   rw[J.b2,if_neg dk];exact ag
theorem bn.drew(h:bn μ H w):bn μ H w.drew:=h.of_heap rfl
theorem b5.drew:b5 μ H w μ H w.drew:=b5.of_heap rfl rfl rfl rfl
theorem Ma{need bytes:Nat}(h:k2 need bytes=true):(4*need+2048)*bytes<=281474976710656/\need<=281474976710656:=by
 simp only[k2,Nat.ble_eq] at h
 have aa:(4*need+2048)*bytes<=(4*need+2048)*(bytes+1):=Nat.mul_le_mul_left _ (by omega)
 have ad:(4*need+2048)*1<=(4*need+2048)*(bytes+1):=Nat.mul_le_mul_left _ (by omega)
 refine⟨Nat.le_trans aa h,?_⟩
 have aw:=Nat.le_trans ad h
 rw[Nat.mul_one] at aw
 generalize 281474976710656=q at aw⊢
 omega
theorem Mb{sT e:TypeId}{xT:Option TypeId}{i:TypeInfo}{z:Value}{argTypes:Array TypeId}{ty:TypeId}(h0:argTypes[0]? =some sT)(aa:argTypes[1]? =xT)(hu:P.underlying sT=some (.slice e))(ab:nZ P xT=true)(ae:P.info? e=some i)
  (a4:∀w:World,(zeroValue e).run P w=.ok z w){base:Option Addr}{sLen sCap n:Nat}{br:Value}(aq:(Builtin.lenOf br).run P w=.ok n w){us old:List Value}(hold:(Builtin.firstCells i.size sLen (.slice base sLen sCap)).run P w.drew=.ok ⟨old⟩ w.drew)
  (kC:(Builtin.firstCells i.size n br).run P w.drew=.ok ⟨us⟩ w.drew)(cu:sCap<sLen+n)(rK:k2 (sLen+n) i.bytes=true):
  ∃la,sLen+n<=la/\(Builtin.append_ argTypes ty #[.slice base sLen sCap,br]).run P w=
   .ok (.slice (some ⟨w.heap.size,0,none⟩) (sLen+n) la) (w.drew.alloc (.cells (⟨old⟩++⟨us⟩++Builtin.zeroCells z.cells (la-(sLen+n))) e)):=by
 obtain⟨cM,ic⟩:=Ma rK
 have Mc:=L9 (sLen+n) sCap cu
 have tD:¬(Builtin.nextslicecap (sLen+n) sCap*i.bytes>2^48):=by
  have aa:Builtin.nextslicecap (sLen+n) sCap*i.bytes<=(4*(sLen+n)+2048)*i.bytes:=Nat.mul_le_mul_right _ Mc
  have ad:(2:Nat)^48=281474976710656:=by rfl
  rw[ad]
  exact Nat.not_lt.2 (Nat.le_trans aa cM)
 have Md:IntKind.max .i64=9223372036854775807:=rfl
 have qf:¬(((sLen+n:Nat):Int)>IntKind.i64.max):=by rw[Md];omega
 have Fe:¬(sLen+n<=sCap):=by omega
 have bH:∀w:World,(_root_.Go.sizeOf e).run P w=.ok i.size w:=λw=>by simp[_root_.Go.sizeOf,run_typeInfo ae]
 have yo:(Question.appendCap (sLen+n) sCap e).forced=false:=rfl
 have yp:∀w:World,(typeInfo e).run P w=.ok i w:=λw=>run_typeInfo ae
 have yq:∀(c:Nat) (cs:Array Value),(_root_.Go.newRow e cs).run P w.drew=.ok ⟨w.heap.size,0,none⟩ (w.drew.alloc (.cells cs e)):=λc cs=>rfl
 refine⟨(Question.appendCap (sLen+n) sCap e).cut (w.tape w.drawn (Question.appendCap (sLen+n) sCap e)),by simp[Question.cut],?_⟩
 cases xT with
 |none=>
  simp only[Builtin.append_,h0,aa,List.getElem?_toArray,List.getElem?_cons_zero,List.getElem?_cons_succ,Sem.run_bind,bN hu,Result.andThen_ok,bH,Sem.run_pure,aq,Bool.false_eq_true,if_false,if_neg Fe,yp,qf,false_and,if_neg tD,
   run_choose,yo,run_askRoom,World.drew_eq,hold,kC,Bool.not_false,if_true,a4,yq 0]
 |some AY=>
  simp only[nZ] at ab
  cases aA:P.underlying AY with
  |none=>rw[aA] at ab;cases ab
  |some d=>
   rw[aA] at ab
   cases d<;>first
   |(cases ab;done)
   |simp only[Builtin.append_,h0,aa,List.getElem?_toArray,List.getElem?_cons_zero,List.getElem?_cons_succ,Sem.run_bind,bN hu,bN aA,Result.andThen_ok,bH,Sem.run_pure,aq,Bool.false_eq_true,if_false,if_neg Fe,yp,qf,false_and,if_neg tD,
    run_choose,yo,run_askRoom,World.drew_eq,hold,kC,Bool.not_false,if_true,a4,yq 0]
theorem vI{sT e:TypeId}{xT:Option TypeId}{i:TypeInfo}{argTypes:Array TypeId}{ty:TypeId}(h0:argTypes[0]? =some sT)(aa:argTypes[1]? =xT)(hu:P.underlying sT=some (.slice e))(ab:nZ P xT=true)(ae:P.info? e=some i)
  {base:Option Addr}{sLen sCap n:Nat}{br:Value}(aq:(Builtin.lenOf br).run P w=.ok n w){us:List Value}
  (kC:(Builtin.firstCells i.size n br).run P w=.ok ⟨us⟩ w)(hle:sLen+n<=sCap):
  (Builtin.append_ argTypes ty #[.slice base sLen sCap,br]).run P w=match base with
   |some a=>((_root_.Go.storeCells (a.add (sLen*i.size)) us).run P w).andThen λ_ w'=>.ok (.slice base (sLen+n) sCap) w'
   |none=>.ok (.slice base (sLen+n) sCap) w:=by
 have bH:∀w:World,(_root_.Go.sizeOf e).run P w=.ok i.size w:=λw=>by simp[_root_.Go.sizeOf,run_typeInfo ae]
 cases xT with
 |none=>
  cases base<;>simp only[Builtin.append_,h0,aa,List.getElem?_toArray,List.getElem?_cons_zero,List.getElem?_cons_succ,Sem.run_bind,bN hu,Result.andThen_ok,bH,Sem.run_pure,aq,Bool.false_eq_true,if_false,if_pos hle,Bool.not_false,if_true,kC]
 |some AY=>
  simp only[nZ] at ab
  cases aA:P.underlying AY with
  |none=>rw[aA] at ab;cases ab
  |some d=>
   rw[aA] at ab
   cases d<;>first
   |(cases ab;done)
   |cases base<;>simp only[Builtin.append_,h0,aa,List.getElem?_toArray,List.getElem?_cons_zero,List.getElem?_cons_succ,Sem.run_bind,bN hu,bN aA,Result.andThen_ok,bH,Sem.run_pure,aq,Bool.false_eq_true,if_false,if_pos hle,Bool.not_false,if_true,kC]
theorem Me{l:List I}(h:l.all I.b0=true):∀a∈l,a.b0=true:=λa ba=>List.all_eq_true.1 h a ba
theorem AZ(aj:bn μ H w){sT e:TypeId}{xT:Option TypeId}{i:TypeInfo}{z:I}{argTypes:Array TypeId}{ty:TypeId}(h0:argTypes[0]? =some sT)(aa:argTypes[1]? =xT)(hu:P.underlying sT=some (.slice e))(ab:nZ P xT=true)
  (ae:P.info? e=some i)(a4:ea P e=some z){base:Option Addr}{sLen sCap n:Nat}{x:I}{br:Value}(Ff:a9 μ x br){cs:List I}(gk:hW H i.size x=some (n,cs)){old:List I}
  (hold:∃us:List Value,(Builtin.firstCells i.size sLen (.slice base sLen sCap)).run P w.drew=.ok ⟨us⟩ w.drew/\b4 μ old us)(vJ:old.length=sLen*i.size)(ft:cs.length=n*i.size)(cu:sCap<sLen+n){v:I}{H1 aT:J}(k6:bn μ H1 w)(Mf:b5 μ H w μ H1 w)
  {fz:Nat}(ak:j_ H1 e i.bytes i.size (sLen+n) z (old++cs) fz=some (v,aT)):eT P μ H w (Builtin.append_ argTypes ty #[.slice base sLen sCap,br]) v aT:=by
 obtain⟨e9,Fg,rfl,af⟩:=k_ (P:=P) (w:=w) a4
 have Mg:∀w:World,(zeroValue e).run P w=.ok e9 w:=λw=>by
  unfold ea at a4
  simp only[ae] at a4
  cases Fh:i.zero with
  |none=>rw[Fh] at a4;cases a4
  |some Mh=>
   have aV:∀w:World,(zeroValue e).run P w=.ok Mh w:=λw=>by simp[zeroValue,run_typeInfo ae,Fh]
   rw[aV] at Fg
   cases Fg
   exact aV w
 obtain⟨aq,us,lb,kD⟩:=yn (P:=P) aj Ff gk
 obtain⟨_,qg,Mi,Fi⟩:=yn (P:=P) aj.drew Ff gk
 obtain⟨os,vu,Fj⟩:=hold
 unfold j_ at ak
 split at ak
 · rename_i ag
   simp only[Bool.and_eq_true] at ag
   obtain⟨⟨rK,mG⟩,e7⟩:=ag
   cases ak
   obtain⟨la,rL,A0⟩:=Mb (P:=P) (w:=w) (ty:=ty) h0 aa hu ab ae Mg aq vu Mi cu rK
   have ie:=(jw μ e9).cells af
   have Mj:=Nat.eq_of_beq_eq_true mG
   have Mk:e9.cells.size=i.size:=by have:=ie.length;rw[Mj] at this;simpa using this.symm
   have Ml:b4 μ (old++cs) (os++qg):=Fj.append Fi
   have Mm:os.length=sLen*i.size:=by rw[<-Fj.length,vJ]
   have Mn:qg.length=n*i.size:=by rw[<-Fi.length,ft]
   have hmul:(sLen+n)*i.size=sLen*i.size+n*i.size:=Nat.add_mul _ _ _
   have Fk:la*i.size=(sLen+n)*i.size+(la-(sLen+n))*i.size:=by rw[<-Nat.add_mul,Nat.add_sub_of_le rL]
   have Mo:0+la*i.size=((⟨os⟩:Array Value)++⟨qg⟩++Builtin.zeroCells e9.cells (la-(sLen+n))).size:=by
    have aV:(⟨os⟩:Array Value).size=sLen*i.size:=Mm
    have aY:(⟨qg⟩:Array Value).size=n*i.size:=Mn
    have cw:(Builtin.zeroCells e9.cells (la-(sLen+n))).size=(la-(sLen+n))*i.size:=by
     unfold Builtin.zeroCells;rw[Array.size_map,Array.size_range,Mk]
    rw[Array.size_append,Array.size_append,aV,aY,cw,Fk,hmul]
    omega
   have hle:=k6.drew.nm ⟨w.heap.size,0,la*i.size⟩
   obtain⟨r1,r2⟩:=k6.drew.alloc (.cells (old++cs) e .aS 0 fz) (.cells (⟨os⟩++⟨qg⟩++Builtin.zeroCells e9.cells (la-(sLen+n))) e) (la*i.size)
    ⟨_,0,0,World.heap_alloc_new _ _,λj a aG=>by
      obtain⟨u,p7,ai⟩:=Ml.get aG
      refine⟨u,?_,ai.mono hle⟩
      have vK:j<(os++qg).length:=by
       rcases Nat.lt_or_ge j (os++qg).length with h|h
       · exact h
       · rw[List.getElem?_eq_none h] at p7;cases p7
      rw[Nat.zero_add,Array.getElem?_append_left (by simpa using vK)]
      simpa using p7,Mo,by
      refine⟨?_,λj _ _ h=>by omega⟩
      simp[vJ,ft];omega⟩
   refine⟨_,_,_,A0,⟨_,fI _ _ _,la,rfl,rL,by simp⟩,r1,?_⟩
   exact Mf.trans aj k6 (b5.drew.trans k6 k6.drew r2)
 · cases ak
end
end aB
