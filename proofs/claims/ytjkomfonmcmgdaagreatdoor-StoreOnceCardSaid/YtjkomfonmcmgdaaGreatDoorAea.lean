/-
  THE ABSTRACT EVALUATOR (the evaluator's definitions; values and memory): a deterministic semantics of loaded code, and the proof that its runs are runs of the program in the model, whatever the tape draws. No condition.
-/
import GoSem.Step
import Derived.Calls
import Derived.Laws.Sem
import Derived.Laws.World
set_option linter.unusedVariables false
set_option linter.unusedSimpArgs false
namespace bt
open Go
inductive bR where
 |exact(n:Nat)
 |aR (gR:Nat)
 |dead
inductive I where
 |bad
 |bool (b:Bool)
 |int (k:IntKind) (n:Int)
 |str (s:List UInt8)
 |aZ
 |ptr (b off:Nat)
 |aS
 |slice (b off len:Nat) (cap:bR)
 |ix
 |map (r:Nat)
 |gb
 |fn (f:Nat) (first aV:List I)
 |dt (l:Nat)
 |e7
 |iface (t:Nat) (v:I)
 |agg (cs:List I)
 |aO (vs:List I)
 deriving Inhabited
def I.cO:I->Bool
 |.bad|.agg _|.aO _=>false
 |_=>true
def I.cells:I->List I
 |.agg cs=>cs
 |v=>[v]
inductive iF where
 |here|l (p:iF)|r (p:iF)
inductive a2 where
 |leaf
 |node (l:a2) (v:I) (r:a2)
def xW:Nat->Nat->iF
 |0,_=>.here
 |f+1,n=>match n with
  |0=>.here
  |m+1=>match Nat.mod m 2 with
   |0=>.l (xW f (Nat.div m 2))
   |_=>.r (xW f (Nat.div m 2))
def hh(n:Nat):iF:=xW n n
def a2.get:iF->a2->I
 |.here,.node _ v _=>v
 |.l p,.node l _ _=>get p l
 |.r p,.node _ _ r=>get p r
 |_,.leaf=>.bad
def a2.D0(l:a2)(v:I)(r:a2):a2:=match l with
 |.leaf=>.node .leaf v r
 |.node a b c=>.node (.node a b c) v r
def a2.D1(l:a2)(v:I)(r:a2):a2:=match r with
 |.leaf=>.node l v .leaf
 |.node a b c=>.node l v (.node a b c)
def a2.set:iF->I->a2->a2
 |.here,x,.node l _ r=>.node l x r
 |.here,x,.leaf=>.node .leaf x .leaf
 |.l p,x,.node l v r=>a2.D0 (set p x l) v r
 |.l p,x,.leaf=>a2.D0 (set p x .leaf) .bad .leaf
 |.r p,x,.node l v r=>a2.D1 l v (set p x r)
 |.r p,x,.leaf=>a2.D1 .leaf .bad (set p x .leaf)
inductive gS where
 |own|aR|ro|fz
 deriving DecidableEq
structure dU where
 key:I
 val:I
 born:Nat
inductive bZ where
 |call (f:Nat) (args:List I)
 |collected (r:Nat)
inductive dr where
 |cells (cs:List I) (el:Nat) (k:gS) (aI af:Nat)
 |map (es:List dU) (clock:Nat)
 |rY (s:List UInt8) (pos:Nat)
 |mapIter (m:Option Nat) (since:Nat) (seen:List Nat) (last:Nat)
 |loop (st:LoopState) (gf:Option Code) (fn:Nat) (m_:a2) (params:List Nat) (assign body:Code) (defers:Nat)
 |defrd (calls:Option (List bZ))
 |raw (o:Obj)
inductive ff where
 |leaf
 |node (l:ff) (v:Option dr) (r:ff)
def ff.get:ff->Nat->Option dr
 |.leaf,_=>none
 |.node l v r,n=>match n with
  |0=>v
  |m+1=>match Nat.mod m 2 with
   |0=>get l (Nat.div m 2)
   |_=>get r (Nat.div m 2)
def ff.lS:Nat->ff->Nat->Option dr->ff
 |0,t,_,_=>t
 |f+1,.leaf,n,x=>match n with
  |0=>.node .leaf x .leaf
  |m+1=>match Nat.mod m 2 with
   |0=>.node (lS f .leaf (Nat.div m 2) x) none .leaf
   |_=>.node .leaf none (lS f .leaf (Nat.div m 2) x)
 |f+1,.node l v r,n,x=>match n with
  |0=>.node l x r
  |m+1=>match Nat.mod m 2 with
   |0=>.node (lS f l (Nat.div m 2) x) v r
   |_=>.node l v (lS f r (Nat.div m 2) x)
structure J where
 t:ff
 n:Nat
def J.get(h:J)(b:Nat):Option dr:=h.t.get b
def J.set(h:J)(b:Nat)(o:Option dr):J:=⟨ff.lS (b+1) h.t b o,h.n⟩
def J.push(h:J)(o:dr):J:=⟨ff.lS (h.n+1) h.t h.n (some o),h.n+1⟩
inductive jr where
 |val (v:I) (h:J)
 |ca (v:I) (h:J)
 |call (f:Nat) (args:List I) (h:J)
 |dt (l:Nat) (args:List I) (h:J)
 |lT (d:bZ)
 |tx
 |fail (jG:String)
inductive a9 where
 |ret (v:I) (h:J)
 |ca (v:I) (h:J)
 |fail (jG:String)
mutual
def oP:Value->I
 |.bool b=>.bool b
 |.int k n=>.int k n
 |.string s=>.str s.data.toList
 |.pointer none=>.aZ
 |.slice none 0 0=>.aS
 |.map none=>.ix
 |.nilFunc=>.gb
 |.nilIface=>.e7
 |.agg ⟨cs⟩=>.agg (AU cs)
 |.tuple ⟨vs⟩=>.aO (AU vs)
 |_=>.bad
def AU:List Value->List I
 |[]=>[]
 |v::vs=>oP v::AU vs
end
def nth{α:Type}:Nat->List α->Option α
 |_,[]=>none
 |0,a::_=>some a
 |n+1,_::l=>nth n l
def takeN:Nat->List I->Option (List I)
 |0,_=>some []
 |_+1,[]=>none
 |n+1,a::l=>match takeN n l with
  |some r=>some (a::r)
  |none=>none
def jH{α:Type}:Nat->List α->List α
 |0,l=>l
 |_+1,[]=>[]
 |n+1,_::l=>jH n l
def dd:List UInt8->List UInt8->Bool
 |[],[]=>true
 |a::x,b::y=>match Nat.beq a.toNat b.toNat with
  |true=>dd x y
  |false=>false
 |_,_=>false
def dO:List UInt8->List UInt8->Bool
 |_,[]=>false
 |[],_::_=>true
 |a::x,b::y=>match Nat.beq a.toNat b.toNat with
  |true=>dO x y
  |false=>Nat.blt a.toNat b.toNat
def bP(x y:Int):Bool:=decide (x<y)
def eQ(x y:Int):Bool:=decide (x<=y)
def a8(x y:Int):Bool:=x==y
def loadCells(h:J)(b off n:Nat):Option (List I):=
 match h.get b with
 |some (.cells cs _ _ _ _)=>takeN n (jH off cs)
 |_=>none
def ar(h:J)(b off:Nat):Option I:=
 match h.get b with
 |some (.cells cs _ _ _ _)=>nth off cs
 |_=>none
def lj(k:gS)(aI af off n:Nat):Bool:=
 match k with
 |.ro|.fz=>false
 |_=>Nat.ble af aI||Nat.ble (off+n) aI||Nat.ble af off
def fS:Nat->List I->List I->Option (List I)
 |0,[],cs=>some cs
 |0,_::_,[]=>none
 |0,v::vs,_::cs=>match v.cO with
  |true=>match fS 0 vs cs with
   |some r=>some (v::r)
   |none=>none
  |false=>none
 |_+1,[],cs=>some cs
 |_+1,_::_,[]=>none
 |n+1,vs,c::cs=>match fS n vs cs with
  |some r=>some (c::r)
  |none=>none
def storeCells(h:J)(b off:Nat)(vs:List I):Option J:=
 match h.get b with
 |some (.cells cs el k aI af)=>
  match lj k aI af off vs.length with
  |true=>match fS off vs cs with
   |some bT=>some (h.set b (some (.cells bT el k aI af)))
   |none=>none
  |false=>none
 |_=>none
def newRow(h:J)(el:Nat)(cs:List I):Option (Nat×J):=
 match cs.all I.cO with
 |true=>some (h.n,h.push (.cells cs el .own 0 0))
 |false=>none
def qM(P:Program)(t:TypeId):Option Bool:=
 match P.underlying t with
 |some (.struct _)=>some true
 |some (.array _ _)=>some true
 |some _=>some false
 |none=>none
def dx(P:Program)(t:TypeId):Option Nat:=match P.info? t with
 |some i=>some i.size
 |none=>none
def ev(P:Program)(t:TypeId):Option I:=match P.info? t with
 |some i=>match i.zero with
  |some z=>match oP z with
   |.bad=>none
   |a=>some a
  |none=>none
 |none=>none
def js(P:Program)(t:TypeId)(cs:List I)(off:Nat):Option I:=
 match qM P t,dx P t with
 |some true,some n=>match takeN n (jH off cs) with
  |some r=>some (.agg r)
  |none=>none
 |some false,_=>nth off cs
 |_,_=>none
def kh(place:Nat->Option (Nat×Nat))(cells:List I):List (Nat×I)->Option (List I)
 |[]=>some cells
 |(i,v)::rest=>
  match v with
  |.bad=>none
  |v=>match place i with
   |none=>none
   |some (off,size)=>
    match Nat.beq v.cells.length size&&Nat.ble (off+size) cells.length with
    |true=>match fS off v.cells cells with
     |some QX=>kh place QX rest
     |none=>none
    |false=>none
def fs{α:Type}:Nat->List α->List α
 |0,_=>[]
 |n+1,l=>l++fs n l
def eqFields(P:Program)(E:TypeId->I->I->Option Bool)(xs ys:List I):List Field->Option Bool
 |[]=>some true
 |f::b0=>match decide (f.name= "_") with
  |true=>eqFields P E xs ys b0
  |false=>match js P f.type xs f.offset,js P f.type ys f.offset with
   |some a,some b=>match E f.type a b with
    |some true=>eqFields P E xs ys b0
    |r=>r
   |_,_=>none
def xX(P:Program)(E:TypeId->I->I->Option Bool)(e:TypeId)(sz:Nat)(xs ys:List I):Nat->Nat->Option Bool
 |0,_=>some true
 |n+1,i=>match js P e xs (i*sz),js P e ys (i*sz) with
  |some a,some b=>match E e a b with
   |some true=>xX P E e sz xs ys n (i+1)
   |r=>r
  |_,_=>none
def D2(h:J)(a i b j:Nat):Option Bool:=
 match Nat.beq a b with
 |true=>some (Nat.beq i j)
 |false=>match h.get a,h.get b with
  |some (.cells _ _ .own 0 0),some (.cells _ _ .own 0 0)=>some false
  |_,_=>none
def gg(P:Program)(h:J):Nat->TypeId->I->I->Option Bool
 |0,_,_,_=>none
 |d+1,t,x,y=>
  match P.underlying t with
  |none=>none
  |some .bool=>match x,y with
   |.bool a,.bool b=>some (a==b)
   |_,_=>none
  |some (.int _)=>match x,y with
   |.int j a,.int k b=>if j=k then some (a8 a b) else none
   |_,_=>none
  |some .string=>match x,y with
   |.str a,.str b=>some (dd a b)
   |_,_=>none
  |some (.pointer e)=>match x,y with
   |.aZ,.aZ=>some true
   |.aZ,.ptr _ _=>some false
   |.ptr _ _,.aZ=>some false
   |.ptr a i,.ptr b j=>match dx P e with
    |some (_+1)=>D2 h a i b j
    |_=>none
   |_,_=>none
  |some (.slice _)=>match x,y with
   |.aS,.aS=>some true
   |.aS,.slice _ _ _ _=>some false
   |.slice _ _ _ _,.aS=>some false
   |_,_=>none
  |some (.map _ _)=>match x,y with
   |.ix,.ix=>some true
   |.ix,.map _=>some false
   |.map _,.ix=>some false
   |_,_=>none
  |some (.func _ _ _)=>match x,y with
   |.gb,.gb=>some true
   |.gb,.fn _ _ _=>some false
   |.fn _ _ _,.gb=>some false
   |_,_=>none
  |some (.interface _)=>match x,y with
   |.e7,.e7=>some true
   |.e7,.iface _ _=>some false
   |.iface _ _,.e7=>some false
   |.iface a v,.iface b w=>match Nat.beq a b with
    |false=>some false
    |true=>match P.info? a with
     |some i=>match i.comparable with
      |true=>gg P h d a v w
      |false=>none
     |none=>none
   |_,_=>none
  |some (.struct b0)=>match x,y with
   |.agg xs,.agg ys=>match P.stoodInHeld t with
    |true=>none
    |false=>eqFields P (gg P h d) xs ys b0.toList
   |_,_=>none
  |some (.array n e)=>match x,y with
   |.agg xs,.agg ys=>match dx P e with
    |some sz=>xX P (gg P h d) e sz xs ys n 0
    |none=>none
   |_,_=>none
  |some _=>none
def rZ(P:Program)(t:TypeId)(x y:Operand)(a b:I):Bool:=
 match a,b with
 |.e7,.e7=>(x matches .const _)||(y matches .const _)
 |.agg _,.agg _=>!P.eqGuardType P.depth t
 |_,_=>true
def arith(op:BinOp)(k:IntKind)(x y:Int):Option I:=
 match op with
 |.add=>some (.int k (k.wrap (x+y)))
 |.sub=>some (.int k (k.wrap (x-y)))
 |.mul=>some (.int k (k.wrap (x*y)))
 |.quo=>if y=0 then none else some (.int k (k.wrap (x.tdiv y)))
 |.rem=>if y=0 then none else some (.int k (x.tmod y))
 |.and=>some (.int k (k.wrap (BitVec.ofInt k.bits x&&&BitVec.ofInt k.bits y).toNat))
 |.or=>some (.int k (k.wrap (BitVec.ofInt k.bits x|||BitVec.ofInt k.bits y).toNat))
 |.xor=>some (.int k (k.wrap (BitVec.ofInt k.bits x^^^BitVec.ofInt k.bits y).toNat))
 |.andNot=>some (.int k (k.wrap (BitVec.ofInt k.bits x&&& ~~~BitVec.ofInt k.bits y).toNat))
 |.eql=>some (.bool (a8 x y))
 |.neq=>some (.bool (!a8 x y))
 |.lss=>some (.bool (bP x y))
 |.leq=>some (.bool (eQ x y))
 |.gtr=>some (.bool (bP y x))
 |.geq=>some (.bool (eQ y x))
 |_=>none
def r0(op:BinOp)(k:IntKind)(x y:Int):Option I:=
 if y<0 then none else
 match op with
 |.shl=>some (.int k (k.wrap (x*2^(min y.toNat k.bits))))
 |.shr=>some (.int k (x.fdiv (2^(min y.toNat k.bits))))
 |_=>none
def gT(op:BinOp)(x y:List UInt8):Option I:=
 match op with
 |.add=>if((x.length+y.length:Nat):Int)>IntKind.i64.max then none else some (.str (x++y))
 |.eql=>some (.bool (dd x y))
 |.neq=>some (.bool (!dd x y))
 |.lss=>some (.bool (dO x y))
 |.leq=>some (.bool (!dO y x))
 |.gtr=>some (.bool (dO y x))
 |.geq=>some (.bool (!dO x y))
 |_=>none
def dZ(P:Program)(h:J)(op:BinOp)(t:TypeId)(kQ kR:Operand)(x y:I):Option I:=
 match x,y with
 |.int k a,.int dh b=>
  match op with
  |.shl|.shr=>r0 op k a b
  |_=>if k=dh then arith op k a b else none
 |.str a,.str b=>gT op a b
 |x,y=>
  match op with
  |.eql=>if rZ P t kQ kR x y then(match gg P h 100 t x y with
   |some b=>some (.bool b)
   |none=>none) else none
  |.neq=>if rZ P t kQ kR x y then(match gg P h 100 t x y with
   |some b=>some (.bool (!b))
   |none=>none) else none
  |_=>none
def eI:I->Option Nat
 |.int _ (.ofNat n)=>some n
 |_=>none
def g4(d:Nat):Option I->Option Nat
 |none=>some d
 |some v=>eI v
def bounds(len cap:Nat)(aI af mx:Option I):Option (Nat×Nat×Nat):=
 match g4 cap mx with
 |none=>none
 |some m=>match Nat.ble m cap with
  |false=>none
  |true=>match(match af,mx with
     |none,none=>some len
     |none,some _=>none
     |some v,_=>eI v) with
   |none=>none
   |some ak=>match Nat.ble ak m with
    |false=>none
    |true=>match g4 0 aI with
     |none=>none
     |some l=>match Nat.ble l ak with
      |false=>none
      |true=>some (l,ak,m)
def c1(P:Program)(h:J)(t:TypeId)(x:I)(aI af mx:Option I):Option I:=
 match P.underlying t,x with
 |some .string,.str s=>match mx with
  |some _=>none
  |none=>match bounds s.length s.length aI af none with
   |some (l,ak,_)=>some (.str (List.take (ak-l) (jH l s)))
   |none=>none
 |some (.slice e),.aS=>match dx P e,bounds 0 0 aI af mx with
  |some _,some _=>some .aS
  |_,_=>none
 |some (.slice e),.slice b off len (.exact cap)=>match dx P e,bounds len cap aI af mx with
  |some sz,some (l,ak,m)=>some (.slice b (if m=l then off else off+l*sz) (ak-l) (.exact (m-l)))
  |_,_=>none
 |some (.slice e),.slice b off len (.aR gR)=>match dx P e with
  |some sz=>if sz=gR then(match mx with
   |none=>match bounds len len aI af none with
    |some (l,ak,_)=>if l=0 then some (.slice b off ak (.aR gR)) else if Nat.blt l len then some (.slice b (off+l*sz) (ak-l) (.aR gR)) else some (.slice b off 0 .dead)
    |none=>none
   |some _=>match bounds len len aI af mx with
    |some (l,ak,m)=>some (.slice b (if m=l then off else off+l*sz) (ak-l) (.exact (m-l)))
    |none=>none) else none
  |none=>none
 |some (.slice e),.slice b off len .dead=>match dx P e,bounds 0 0 aI af mx with
  |some _,some _=>some (.slice b off 0 .dead)
  |_,_=>none
 |some (.array n e),.ptr b off=>match dx P e,bounds n n aI af mx with
  |some sz,some (l,ak,m)=>some (.slice b (if m=l then off else off+l*sz) (ak-l) (.exact (m-l)))
  |_,_=>none
 |some (.pointer arr),.ptr b off=>match P.underlying arr with
  |some (.array n e)=>match dx P e,bounds n n aI af mx with
   |some sz,some (l,ak,m)=>some (.slice b (if m=l then off else off+l*sz) (ak-l) (.exact (m-l)))
   |_,_=>none
  |_=>none
 |_,_=>none
def cl(P:Program)(h:J)(t:TypeId)(x:I):Option I:=
 match P.underlying t,x with
 |some .string,.str s=>some (.int .i64 (Int.ofNat s.length))
 |some (.array n _),_=>some (.int .i64 (Int.ofNat n))
 |some (.slice _),.slice _ _ n _=>some (.int .i64 (Int.ofNat n))
 |some (.slice _),.aS=>some (.int .i64 0)
 |some (.map _ _),.ix=>some (.int .i64 0)
 |some (.map _ _),.map r=>match h.get r with
  |some (.map es _)=>some (.int .i64 (Int.ofNat es.length))
  |_=>none
 |some (.pointer a),_=>match P.underlying a with
  |some (.array n _)=>some (.int .i64 (Int.ofNat n))
  |_=>none
 |_,_=>none
def vC(P:Program)(t:TypeId)(x:I):Option I:=
 match P.underlying t,x with
 |some (.array n _),_=>some (.int .i64 (Int.ofNat n))
 |some (.slice _),.slice _ _ _ (.exact n)=>some (.int .i64 (Int.ofNat n))
 |some (.slice _),.aS=>some (.int .i64 0)
 |_,_=>none
def dp:List UInt8->List I
 |[]=>[]
 |b::l=>.int .u8 (Int.ofNat b.toNat)::dp l
def fg(h:J)(size:Nat):I->Option (Nat×List I)
 |.aS=>some (0,[])
 |.str s=>match size with
  |1=>some (s.length,dp s)
  |_=>none
 |.slice b off len .dead=>if len=0 then some (0,[]) else none
 |.slice b off len _=>match loadCells h b off (len*size) with
  |some cs=>some (len,cs)
  |none=>none
 |_=>none
def kA(need bytes:Nat):Bool:=Nat.ble ((4*need+2048)*(bytes+1)) 281474976710656
def pH(P:Program):Option TypeId->Bool
 |none=>true
 |some t=>match P.underlying t with
  |some (.int _)=>false
  |some _=>true
  |none=>false
def kB(h:J)(e bytes size need:Nat)(z:I)(cs:List I)(fz:Nat):Option (I×J):=
 match kA need bytes&&Nat.beq z.cells.length size&&cs.all I.cO with
 |true=>some (.slice h.n 0 need (.aR size),h.push (.cells cs e .aR 0 fz))
 |false=>none
def db(P:Program)(h:J)(sT:TypeId)(xT:Option TypeId)(s x:I):Option (I×J):=
 match P.underlying sT,pH P xT with
 |some (.slice e),true=>
  match P.info? e,ev P e with
  |some i,some z=>
   match fg h i.size x with
   |none=>none
   |some (n,cs)=>
    match s with
    |.aS=>match n with
     |0=>some (.aS,h)
     |_=>kB h e i.bytes i.size n z cs 0
    |.slice b off len (.exact cap)=>
     match Nat.ble (len+n) cap with
     |true=>match n with
      |0=>some (.slice b off len (.exact cap),h)
      |_=>match storeCells h b (off+len*i.size) cs with
       |some an=>some (.slice b off (len+n) (.exact cap),an)
       |none=>none
     |false=>match loadCells h b off (len*i.size) with
      |some old=>kB h e i.bytes i.size (len+n) z (old++cs) 0
      |none=>none
    |.slice b off len (.aR gR)=>
     match Nat.beq gR i.size&&Nat.blt 0 gR with
     |true=>match n with
      |0=>some (s,h)
      |_=>match h.get b with
       |some (.cells old el .aR aI af)=>
        match Nat.ble (off+(len+n)*gR) old.length with
        |true=>match storeCells h b (off+len*gR) cs with
         |some an=>some (.slice b off (len+n) (.aR gR),an)
         |none=>none
        |false=>match Nat.ble af (off+len*gR)&&Nat.beq el e,loadCells h b off (len*gR) with
         |true,some o=>kB (h.set b none) e i.bytes i.size (len+n) z (o++cs) (af-off)
         |_,_=>none
       |_=>none
     |false=>none
    |_=>none
  |_,_=>none
 |_,_=>none
def vD(P:Program)(h:J)(AV:TypeId)(d s:I):Option (I×J):=
 match P.underlying AV with
 |some (.slice e)=>match dx P e with
  |some sz=>match fg h sz s with
   |some (n,cs)=>match d with
    |.aS=>some (.int .i64 0,h)
    |.slice b off len _=>
     let m:=Nat.min n len
     if m=0 then some (.int .i64 0,h) else
     match takeN (m*sz) cs with
     |some bT=>match storeCells h b off bT with
      |some an=>some (.int .i64 (Int.ofNat m),an)
      |none=>none
     |none=>none
    |_=>none
   |none=>none
  |none=>none
 |_=>none
def pI(P:Program)(h:J)(t:TypeId)(x:I):Option (I×J):=
 match P.underlying t,x with
 |some (.map _ _),.ix=>some (.aO [],h)
 |some (.slice _),.aS=>some (.aO [],h)
 |some (.map _ _),.map r=>match h.get r with
  |some (.map _ c)=>some (.aO [],h.set r (some (.map [] c)))
  |_=>none
 |some (.slice e),.slice b off n _=>if n=0 then some (.aO [],h) else
  match ev P e with
  |some z=>match storeCells h b off (fs n z.cells) with
   |some an=>some (.aO [],an)
   |none=>none
  |none=>none
 |_,_=>none
def qN:I->I->Option I
 |.int k x,.int dh y=>if k=dh then some (.int k (if bP y x then y else x)) else none
 |_,_=>none
def r3:I->I->Option I
 |.int k x,.int dh y=>if k=dh then some (.int k (if bP x y then y else x)) else none
 |_,_=>none
def lU(f:I->I->Option I):I->List I->Option I
 |x,[]=>some x
 |x,y::l=>match f x y with
  |some z=>lU f z l
  |none=>none
def n2:List I->Option (List UInt8)
 |[]=>some []
 |.int .u8 (.ofNat n)::l=>match Nat.blt n 256,n2 l with
  |true,some r=>some (UInt8.ofNat n::r)
  |_,_=>none
 |_=>none
def pJ(P:Program)(h:J)(pT:TypeId)(p n:I):Option (I×J):=
 match p,eI n with
 |.aZ,some 0=>some (.str [],h)
 |.ptr b off,some n=>if n=0 then some (.str [],h) else
  match P.underlying pT,h.get b with
  |some (.pointer u),some (.cells cs el k aI af)=>
   if P.underlyingId el=P.underlyingId u&&dx P el=some 1&&Nat.ble n 281474976710656&&decide (k≠ .ro) then
    (match takeN n (jH off cs) with
    |some r=>match n2 r with
     |some bs=>some (.str bs,h.set b (some (.cells cs el .fz aI af)))
     |none=>none
    |none=>none) else none
  |_,_=>none
 |_,_=>none
def oQ(P:Program)(kt:TypeId)(k:I):Bool:=
 match P.underlying kt with
 |some (.int _)=>match k with
  |.int _ _=>true
  |_=>false
 |some .string=>match k with
  |.str _=>true
  |_=>false
 |some .bool=>match k with
  |.bool _=>true
  |_=>false
 |_=>false
def AW(P:Program)(cs:List I):List Field->Bool
 |[]=>true
 |f::b0=>match js P f.type cs f.offset with
  |some a=>match oQ P f.type a with
   |true=>AW P cs b0
   |false=>false
  |none=>false
def AX(P:Program)(e:TypeId)(sz:Nat)(cs:List I):Nat->Nat->Bool
 |0,_=>true
 |n+1,i=>match js P e cs (i*sz) with
  |some a=>match oQ P e a with
   |true=>AX P e sz cs n (i+1)
   |false=>false
  |none=>false
def mu(P:Program)(kt:TypeId)(k:I):Bool:=
 match k with
 |.agg cs=>match P.underlying kt with
  |some (.struct b0)=>AW P cs b0.toList
  |some (.array n e)=>match dx P e with
   |some sz=>AX P e sz cs n 0
   |none=>false
  |_=>false
 |k=>oQ P kt k
def pK:I->I->Option Bool
 |.int j a,.int k b=>if j=k then some (a8 a b) else none
 |.str a,.str b=>some (dd a b)
 |.bool a,.bool b=>some (a==b)
 |_,_=>none
def xY:List I->List I->Bool
 |[],[]=>true
 |a::l,b::m=>match pK a b with
  |some true=>xY l m
  |_=>false
 |_,_=>false
def r4(k x:I):Bool:=match k,x with
 |.agg a,.agg b=>xY a b
 |.agg _,_=>false
 |_,_=>true
def pL(P:Program)(h:J)(kt:TypeId)(k x:I):Option Bool:=match k with
 |.agg cs=>gg P h 8 kt (.agg cs) x
 |k=>pK k x
def jY(P:Program)(h:J)(kt:TypeId)(k:I):List dU->Nat->Option (Option (Nat×I))
 |[],_=>some none
 |e::es,i=>match pL P h kt k e.key with
  |some true=>some (some (i,e.val))
  |some false=>jY P h kt k es (i+1)
  |none=>none
def xZ(i:Nat)(es:List dU):I:=match nth i es with
 |some e=>e.key
 |none=>.bad
def qO(v:I)(key:I):Nat->List dU->List dU
 |_,[]=>[]
 |0,e::es=>⟨key,v,e.born⟩::es
 |n+1,e::es=>e::qO v key n es
def pM(P:Program)(jI:TypeId)(ok:Bool):Option (Nat×I)->Option I
 |some (_,v)=>some (if ok then .aO [v,.bool true] else v)
 |none=>match ev P jI with
  |some z=>some (if ok then .aO [z,.bool false] else z)
  |none=>none
def hO(P:Program)(h:J)(t:TypeId)(m k:I)(ok:Bool):Option I:=
 match P.underlying t with
 |some (.map kt jI)=>match mu P kt k with
  |true=>match m with
   |.ix=>pM P jI ok none
   |.map r=>match h.get r with
    |some (.map es _)=>match jY P h kt k es 0 with
     |some r=>pM P jI ok r
     |none=>none
    |_=>none
   |_=>none
  |false=>none
 |_=>none
def vE(P:Program)(h:J)(t:TypeId)(m k v:I):Option J:=
 match P.underlying t with
 |some (.map kt _)=>match mu P kt k with
  |true=>match m with
   |.map r=>match h.get r with
    |some (.map es clock)=>match jY P h kt k es 0 with
     |some (some (i,_))=>match r4 k (xZ i es) with
      |true=>some (h.set r (some (.map (qO v k i es) clock)))
      |false=>none
     |some none=>some (h.set r (some (.map (es++[⟨k,v,clock⟩]) (clock+1))))
     |none=>none
    |_=>none
   |_=>none
  |false=>none
 |_=>none
def pN(P:Program)(h:J)(t:TypeId)(m k:I):Option (I×J):=
 match P.underlying t with
 |some (.map kt jI)=>match mu P kt k with
  |true=>match m with
   |.map r=>match h.get r with
    |some (.map es clock)=>match jY P h kt k es 0 with
     |some (some (i,v))=>match nth i es with
      |some e=>match r4 k e.key with
       |true=>some (.aO [v,.int .i64 (Int.ofNat e.born)],h.set r (some (.map (qO v k i es) clock)))
       |false=>none
      |none=>none
     |some none=>match ev P jI with
      |some z=>some (.aO [z,.int .i64 (Int.ofNat clock)],h.set r (some (.map (es++[⟨k,z,clock⟩]) (clock+1))))
      |none=>none
     |none=>none
    |_=>none
   |_=>none
  |false=>none
 |_=>none
def tz(born:Int):List dU->Nat->Option (Nat×dU)
 |[],_=>none
 |e::es,i=>match a8 (Int.ofNat e.born) born with
  |true=>some (i,e)
  |false=>tz born es (i+1)
def pO(h:J)(m s v:I):Option J:=
 match m,s with
 |.map r,.int _ born=>match h.get r with
  |some (.map es clock)=>match tz born es 0 with
   |some (i,e)=>some (h.set r (some (.map (qO v e.key i es) clock)))
   |none=>none
  |_=>none
 |_,_=>none
def x0:Nat->List dU->List dU
 |_,[]=>[]
 |0,_::es=>es
 |n+1,e::es=>e::x0 n es
def pP(P:Program)(h:J)(t:TypeId)(m k:I):Option (I×J):=
 match P.underlying t with
 |some (.map kt _)=>match mu P kt k with
  |true=>match m with
   |.ix=>some (.aO [],h)
   |.map r=>match h.get r with
    |some (.map es clock)=>match jY P h kt k es 0 with
     |some (some (i,_))=>some (.aO [],h.set r (some (.map (x0 i es) clock)))
     |some none=>some (.aO [],h.set r (some (.map es clock)))
     |none=>none
    |_=>none
   |_=>none
  |false=>none
 |_=>none
def D3(s:List UInt8):Nat×Nat:=Utf8.decode ⟨s.toArray⟩ 0
def AY(h:J)(it:I)(isStr:Bool):Option (I×J):=
 match it with
 |.ptr r 0=>match h.get r,isStr with
  |some (.rY s pos),true=>
   (match s with
   |[]=>some (.aO [.bool false],h)
   |s=>let(c,w):=D3 s
    some (.aO [.bool true,.int .i64 (Int.ofNat pos),.int .i32 (Int.ofNat c)],h.set r (some (.rY (jH w s) (pos+w)))))
  |some (.mapIter none _ _ _),false=>some (.aO [.bool false],h)
  |_,_=>none
 |_=>none
def tA(b:Nat):List dU->Option dU
 |[]=>none
 |e::l=>match Nat.beq e.born b with
  |true=>some e
  |false=>tA b l
def x1:List Nat->Option Nat
 |[]=>none
 |[b]=>some b
 |_::b::l=>x1 (b::l)
def tB(h:J)(it:I):Option I:=
 match it with
 |.ptr r 0=>match h.get r with
  |some (.mapIter (some m) _ seen last)=>match h.get m,x1 seen with
   |some (.map es clock),some b=>match Nat.beq clock last with
    |true=>match tA b es with
     |some e=>some (.aO [e.key,e.val])
     |none=>none
    |false=>none
   |_,_=>none
  |_=>none
 |_=>none
inductive bL where
 |none|act (v:I)|done (v:I)
inductive bu where
 |nrm|exit (id:Nat)|ret|goto (l:Nat)|ca (v:I)
inductive jZ where
 |ok (e:bu) (r:a2) (d:List bZ) (q:bL) (h:J)
 |fail (jG:String)
inductive eJ where
 |fn (f:Nat)|dt (l:Nat)
abbrev aP:=eJ->List I->J->a9
inductive Acc where
 |env (j:Nat)|reg (p:iF)|val (v:I)
def dI(m:Nat)(env:List I)(r:a2):Acc->I
 |.env j=>(nth (m-1-j) env).getD .bad
 |.reg p=>r.get p
 |.val v=>v
def iy(t:Nat):List (Nat×Acc)->Option Acc
 |[]=>none
 |(u,a)::l=>match Nat.beq t u with
  |true=>some a
  |false=>iy t l
def cR(P:Program)(need:Nat)(loc:List (Nat×Acc)):Operand->Acc
 |.tmp t=>match iy t loc with
  |some a=>a
  |none=>match Nat.testBit need t with
   |true=>.reg (hh t)
   |false=>.val .bad
 |.const v=>.val (oP v)
 |.global g=>match Nat.blt g P.globals.size with
  |true=>.val (.ptr g 0)
  |false=>.val .bad
 |.func f=>.val (.fn f [] [])
def tC(f:I)(args:List I)(h:J):jr:=
 match f with
 |.fn g first aV=>.call g (first++args++aV) h
 |.dt l=>.dt l args h
 |_=>.fail "callVal"
def fT(h:J)(jG:String):Option I->jr
 |some v=>.val v h
 |none=>.fail jG
def lV(jG:String):Option (I×J)->jr
 |some (v,h)=>.val v h
 |none=>.fail jG
def qP(jG:String):Option J->jr
 |some h=>.val (.aO []) h
 |none=>.fail jG
def kindName:I->String
 |.bad=> "bad" |.bool _=> "bool" |.int _ n=> "int" ++toString n|.str s=> "str" ++toString s.length|.aZ=> "nilP" |.ptr b o=> "ptr" ++toString b++ "+" ++toString o|.aS=> "nilS" |.slice b o n c=> "slice" ++toString b++ "+" ++toString o++ "," ++toString n++(match c with|.exact k=> "x" ++toString k|.aR _=> "o" |.dead=> "d")
 |.ix=> "nilM" |.map _=> "map" |.gb=> "nilF" |.fn f _ _=> "fn" ++toString f|.dt _=> "yld" |.e7=> "nilI" |.iface t _=> "iface" ++toString t|.agg l=> "agg" ++toString l.length|.aO l=> "tup" ++toString l.length
def AZ(P:Program)(t:TypeId)(name:String):Option Nat:=
 match P.info? t with
 |some i=>match i.methods.find? (·.name==name) with
  |some m=>match m.path.isEmpty,m.func,P.underlying t with
   |true,some (f,true),some (.pointer _)=>some f
   |true,some (f,false),some (.pointer _)=>none
   |true,some (f,false),some _=>some f
   |_,_,_=>none
  |none=>none
 |none=>none
def iz(P:Program)(b:Builtin)(ats:Array TypeId)(vs:List I)(h:J):jr:=
 match b with
 |.recover=>.tx
 |.min=>match vs with
  |x::l=>fT h "min" (lU qN x l)
  |[]=>.fail "min"
 |.max=>match vs with
  |x::l=>fT h "max" (lU r3 x l)
  |[]=>.fail "max"
 |b=>match ats[0]?,vs with
  |some t,[x]=>match b with
   |.len=>fT h ("len " ++kindName x) (cl P h t x)
   |.cap=>fT h "cap" (vC P t x)
   |.clear=>lV "clear" (pI P h t x)
   |.unsafeSliceData=>match x with
    |.aS=>.val .aZ h
    |.slice b off n (.exact c)=>if c=0 then .fail "SliceData" else .val (.ptr b off) h
    |.slice b off n (.aR _)=>if n=0 then .fail "SliceData" else .val (.ptr b off) h
    |_=>.fail "SliceData"
   |_=>.fail "builtin"
  |some t,[x,y]=>match b with
   |.append=>lV ("append " ++kindName x++ " " ++kindName y) (db P h t ats[1]? x y)
   |.copy=>lV "copy" (vD P h t x y)
   |.delete=>lV "delete" (pP P h t x y)
   |.unsafeString=>lV "usString" (pJ P h t x y)
   |_=>.fail "builtin"
  |_,_=>.fail "builtin"
def iZ(P:Program)(src dst:TypeId)(x:I)(h:J):jr:=
 match P.underlying src,P.underlying dst,x with
 |some (.int _),some (.int k),.int _ n=>.val (.int k (k.wrap n)) h
 |some (.int _),some .string,.int _ n=>.val (.str (Utf8.encode n).data.toList) h
 |some .string,some .string,.str s=>.val (.str s) h
 |some .string,some (.slice e),.str s=>match P.underlying e with
  |some (.int .u8)=>.val (.slice h.n 0 s.length (.aR 1)) (h.push (.cells (dp s) e .aR 0 0))
  |_=>.fail "convert to runes"
 |some (.slice e),some .string,v=>match P.underlying e,v with
  |some (.int .u8),.aS=>.val (.str []) h
  |some (.int .u8),.slice b off n .dead=>if n=0 then .val (.str []) h else .fail "convert dead"
  |some (.int .u8),.slice b off n _=>match loadCells h b off n with
   |some cs=>match n2 cs with
    |some bs=>.val (.str bs) h
    |none=>.fail "convert bytes"
   |none=>.fail "convert bytes"
  |_,_=>.fail "convert slice to string"
 |some (.pointer u),some .unsafePointer,.ptr b off=>match h.get b,dx P u with
  |some (.cells cs _ _ _ _),some (_+1)=>if Nat.blt off cs.length then .val (.ptr b off) h else .fail "convert pointer"
  |_,_=>.fail "convert pointer"
 |some .unsafePointer,some (.pointer u),.ptr b off=>match h.get b,dx P u with
  |some (.cells cs el .own _ _),some (_+1)=>if liesAt P P.depth el (cs.length/P.cellsOf el) off u 1 then .val (.ptr b off) h else .fail "convert from pointer"
  |_,_=>.fail "convert from pointer"
 |_,_,v=>.fail ("convert " ++kindName v)
def cP(P:Program)(o:Oper)(g:Operand->I)(h:J):jr:=
 match o.op with
 |.move x|.assign x=>.val (g x) h
 |.pick c a b=>match g c with
  |.bool true=>.val (g a) h
  |.bool false=>.val (g b) h
  |_=>.fail "pick"
 |.alloc e=>match ev P e with
  |some z=>match newRow h e z.cells with
   |some (b,an)=>.val (.ptr b 0) an
   |none=>.fail "alloc"
  |none=>.fail "alloc"
 |.box e x=>match newRow h e (g x).cells with
  |some (b,an)=>.val (.ptr b 0) an
  |none=>.fail "box"
 |.build t parts=>match ev P t with
  |some z=>match P.underlying t with
   |some (.struct b0)=>match b0.toList.all (λf=>(dx P f.type).isSome),kh (λi=>(b0[i]?).map λf=>(f.offset,P.cellsOf f.type)) z.cells (parts.toList.map λp=>(p.1,g p.2)) with
    |true,some cs=>.val (.agg cs) h
    |_,_=>.fail "build"
   |some (.array _ e)=>match dx P e with
    |some sz=>match kh (λi=>some (i*sz,sz)) z.cells (parts.toList.map λp=>(p.1,g p.2)) with
     |some cs=>.val (.agg cs) h
     |none=>.fail "build array"
    |none=>.fail "build"
   |_=>.fail "build"
  |none=>.fail "build"
 |.buildSlice t len parts=>match P.underlying t with
  |some (.slice e)=>match dx P e,ev P e with
   |some sz,some z=>match Nat.ble (len*sz) 16777216&&Nat.beq z.cells.length sz,kh (λi=>some (i*sz,sz)) (if len*sz=0 then[] else fs len z.cells) (parts.toList.map λp=>(p.1,g p.2)) with
    |true,some cs=>match newRow h e cs with
     |some (b,an)=>.val (.slice b 0 len (.exact len)) an
     |none=>.fail "buildSlice"
    |_,_=>.fail "buildSlice"
   |_,_=>.fail "buildSlice"
  |_=>.fail "buildSlice"
 |.insert t m k v=>qP "insert" (vE P h t (g m) (g k) (g v))
 |.load t a=>match g a with
  |.ptr b off=>match qM P t,dx P t with
   |some true,some n=>match loadCells h b off n with
    |some cs=>.val (.agg cs) h
    |none=>.fail ("load agg " ++toString b++ "+" ++toString off)
   |some false,_=>fT h ("load " ++toString b++ "+" ++toString off) (ar h b off)
   |_,_=>.fail "load"
  |v=>.fail ("load of " ++kindName v)
 |.store t a v=>match g a with
  |.ptr b off=>match g v,dx P t with
   |.bad,_=>.fail "store bad"
   |v,some n=>match Nat.beq v.cells.length n with
    |true=>qP "store" (storeCells h b off v.cells)
    |false=>.fail "store size"
   |_,none=>.fail "store"
  |_=>.fail "store"
 |.ready _|.waits _=>.fail "ready"
 |.nilCheck x=>match g x with
  |.ptr b o=>.val (.ptr b o) h
  |.slice b o n c=>.val (.slice b o n c) h
  |.fn f a b=>.val (.fn f a b) h
  |.iface t v=>.val (.iface t v) h
  |_=>.fail "nilCheck"
 |.binOp op t x y _=>fT h ("binOp " ++kindName (g x)++ " " ++kindName (g y)) (dZ P h op t x y (g x) (g y))
 |.unOp op _ x=>match op,g x with
  |.not,.bool b=>.val (.bool (!b)) h
  |.neg,.int k n=>.val (.int k (k.wrap (0-n))) h
  |.xor,.int k n=>fT h "unOp" (arith .xor k (if k.signed then-1 else k.max) n)
  |_,_=>.fail "unOp"
 |.convert src dst x=>iZ P src dst (g x) h
 |.sliceToArrayPointer .. =>.fail "sliceToArrayPointer"
 |.makeInterface t x=>match P.underlying t with
  |some (.interface _)=>.fail "makeInterface"
  |some _=>.val (.iface t (g x)) h
  |none=>.fail "makeInterface"
 |.makeFunc fn first aV=>match fn with
  |.func f=>.val (.fn f (first.toList.map g) (aV.toList.map g)) h
  |_=>.fail "makeFunc"
 |.makeMap t r=>match r with
  |none=>.val (.map h.n) (h.push (.map [] 0))
  |some x=>match P.underlying t,g x with
   |some (.map _ _),.int _ _=>.val (.map h.n) (h.push (.map [] 0))
   |_,_=>.fail "makeMap"
 |.makeChan .. =>.fail "makeChan"
 |.makeSlice t l c=>match P.underlying t,eI (g l),eI (g c) with
  |some (.slice e),some l,some c=>match P.info? e,ev P e with
   |some i,some z=>if l<=c&&Nat.ble (c*(i.bytes+1)) 1099511627776&&Nat.beq z.cells.length i.size then(match newRow h e (if c*i.size=0 then[] else fs c z.cells) with
    |some (b,an)=>.val (.slice b 0 l (.exact c)) an
    |none=>.fail "makeSlice") else .fail "makeSlice bounds"
   |_,_=>.fail "makeSlice"
  |_,_,_=>.fail "makeSlice"
 |.slice t x aI af mx=>fT h ("slice " ++kindName (g x)++((aI.map λo=>kindName (g o)).getD "-")++((af.map λo=>kindName (g o)).getD "-")) (c1 P h t (g x) (aI.map g) (af.map g) (mx.map g))
 |.fieldAddr s x f=>match P.underlying s,g x with
  |some (.struct b0),.ptr b off=>match b0[f]? with
   |some fd=>match dx P fd.type with
    |some 0=>.fail "fieldAddr 0"
    |some _=>.val (.ptr b (off+fd.offset)) h
    |none=>.fail "fieldAddr"
   |none=>.fail "fieldAddr"
  |_,v=>.fail ("fieldAddr " ++kindName v)
 |.field t x f=>match P.underlying t,g x with
  |some (.struct b0),.agg cs=>match b0[f]? with
   |some fd=>fT h "field" (js P fd.type cs fd.offset)
   |none=>.fail "field"
  |_,_=>.fail "field"
 |.indexAddr t x i=>match P.underlying t,g x,eI (g i) with
  |some (.array n e),.ptr b off,some i=>match dx P e with
   |some sz=>if i<n then .val (.ptr b (off+i*sz)) h else .fail "indexAddr range"
   |none=>.fail "indexAddr"
  |some (.slice e),.slice b off n c,some i=>match dx P e with
   |some sz=>if i<n then .val (.ptr b (off+i*sz)) h else .fail "indexAddr range"
   |none=>.fail "indexAddr"
  |_,v,w=>.fail ("indexAddr " ++kindName v++kindName (g i))
 |.index t x i=>match P.underlying t,g x,eI (g i) with
  |some (.array n e),.agg cs,some i=>match dx P e with
   |some sz=>if i<n then fT h "index" (js P e cs (i*sz)) else .fail "index range"
   |none=>.fail "index"
  |some .string,.str s,some i=>match nth i s with
   |some b=>.val (.int .u8 (Int.ofNat b.toNat)) h
   |none=>.fail "index str range"
  |_,_,_=>.fail "index"
 |.lookup t x i ok=>fT h "lookup" (hO P h t (g x) (g i) ok)
 |.mapUpdate t m k v=>qP "mapUpdate" (vE P h t (g m) (g k) (g v))
 |.mapEntry t m k=>lV "mapEntry" (pN P h t (g m) (g k))
 |.entryStore t m s v=>qP "entryStore" (pO h (g m) (g s) (g v))
 |.range t x=>match P.underlying t,g x with
  |some .string,.str s=>.val (.ptr h.n 0) (h.push (.rY s 0))
  |some (.map _ _),.ix=>.val (.ptr h.n 0) (h.push (.mapIter none 0 [] 0))
  |some (.map _ _),.map m=>match h.get m with
   |some (.map _ c)=>.val (.ptr h.n 0) (h.push (.mapIter (some m) c [] c))
   |_=>.fail "range"
  |_,_=>.fail "range"
 |.next it isStr=>lV "next" (AY h (g it) isStr)
 |.entry it=>fT h "entry" (tB h (g it))
 |.typeAssert x xT as ok=>match P.underlying as,g x with
  |some (.interface _),_=>.fail "typeAssert to an interface"
  |some _,.e7=>if ok then(match ev P as with|some z=>.val (.aO [z,.bool false]) h|none=>.fail "typeAssert") else .fail "typeAssert nil"
  |some _,.iface t v=>if t=as then .val (if ok then .aO [v,.bool true] else v) h else
   if ok then(match ev P as with|some z=>.val (.aO [z,.bool false]) h|none=>.fail "typeAssert") else .fail "typeAssert fails"
  |_,_=>.fail "typeAssert"
 |.extract t i=>match g t with
  |.aO vs=>fT h "extract" (nth i vs)
  |_=>.fail "extract"
 |.call c=>match c.callee with
  |.value f=>tC (g f) (c.args.toList.map g) h
  |.invoke r name=>match g r with
   |.iface t v=>match AZ P t name with
    |some f=>.call f (v::c.args.toList.map g) h
    |none=>.fail ("invoke " ++name)
   |_=>.fail ("invoke " ++name)
  |.builtin b=>iz P b c.argTypes (c.args.toList.map g) h
 |.go _=>.fail "go"
 |.defer c=>match c.callee with
  |.value f=>match g f with
   |.fn k first aV=>.lT (.call k (first++c.args.toList.map g++aV))
   |_=>.fail "defer"
  |_=>.fail "defer"
 |.panic x=>match g x with
  |.iface t v=>.ca (.iface t v) h
  |_=>.fail "panic"
 |.send .. |.recv .. |.select .. =>.fail "comm"
structure Step where
 guard:Option (Acc×Bool)
 o:Oper
 loc:List (Nat×Acc)
 m:Nat
structure IQ where
 steps:List Step
 loc:List (Nat×Acc)
def j0(P:Program)(need:Nat)(ops:Array Oper)(loc:List (Nat×Acc))(o:Oper):Option (Acc×Bool):=
 match o.guard with
 |none=>none
 |some (j,b)=>match(ops[j]?).bind (·.dst) with
  |some t=>some (cR P need loc (.tmp t),b)
  |none=>some (.val .bad,b)
def aliasOf(o:Oper):Option (Nat×Operand):=
 match o.guard,o.dst,o.op with
 |none,some t,.move x=>some (t,x)
 |none,some t,.assign x=>some (t,x)
 |_,_,_=>none
def hC(o:Oper)(m:Nat)(loc:List (Nat×Acc)):List (Nat×Acc):=
 match o.dst with
 |some t=>(t,.env m)::loc
 |none=>loc
def vF(P:Program)(need:Nat)(ops:Array Oper):List Oper->List (Nat×Acc)->List Step->Nat->IQ
 |[],loc,st,_=>⟨st.reverse,loc⟩
 |o::rest,loc,st,m=>
  match aliasOf o with
  |some (t,x)=>vF P need ops rest ((t,cR P need loc x)::loc) st m
  |none=>vF P need ops rest (hC o m loc) (⟨j0 P need ops loc o,o,loc,m⟩::st) (m+1)
def pQ(P:Program)(need:Nat)(ops:Array Oper):IQ:=vF P need ops ops.toList [] [] 0
inductive na where
 |ok (env:List I) (d:List bZ) (q:bL) (h:J)
 |ca (v:I) (d:List bZ) (q:bL) (h:J)
 |fail (jG:String)
inductive x2 where
 |ok (v:I) (d:List bZ) (q:bL) (h:J)
 |ca (v:I) (d:List bZ) (q:bL) (h:J)
 |fail (jG:String)
def eK:Option (I×Bool)->Option Bool
 |none=>some true
 |some (.bool c,b)=>some (c==b)
 |some (.aO [],_)=>some false
 |_=>none
def x3(d:List bZ)(q:bL):a9->x2
 |.ret v h=>.ok v d q h
 |.ca v h=>.ca v d q h
 |.fail w=>.fail w
def dV(P:Program)(inR:Bool)(call:eJ->List I->J->a9)(gd:Option (I×Bool))(o:Oper)(g:Operand->I)(d:List bZ)(q:bL)(h:J):x2:=
 match eK gd with
 |none=>.fail ("guard " ++o.pos)
 |some false=>.ok (.aO []) d q h
 |some true=>
  match cP P o g h with
  |.val v an=>.ok v d q an
  |.ca v an=>.ca v d q an
  |.call f args an=>x3 d q (call (.fn f) args an)
  |.dt l args an=>x3 d q (call (.dt l) args an)
  |.lT x=>if inR then .fail "defer in a round" else .ok (.aO []) (x::d) q h
  |.tx=>if inR then .fail "recover in a round" else match q with
   |.none=>.ok .e7 d .none h
   |.done v=>.ok .e7 d (.done v) h
   |.act v=>.ok v d (.done v) h
  |.fail w=>.fail (w++ " at " ++o.pos)
def iG(P:Program)(need:Nat)(inR:Bool)(call:eJ->List I->J->a9)(r:a2):List Step->List I->List bZ->bL->J->na
 |[],env,d,q,h=>.ok env d q h
 |s::rest,env,d,q,h=>
  match dV P inR call (match s.guard with|none=>none|some (a,b)=>some (dI s.m env r a,b)) s.o (λx=>dI s.m env r (cR P need s.loc x)) d q h with
  |.ok v bh bn an=>iG P need inR call r rest (v::env) bh bn an
  |.ca v bh bn an=>.ca v bh bn an
  |.fail w=>.fail w
def bR.beq:bR->bR->Bool
 |.exact a,.exact b=>Nat.beq a b
 |.aR a,.aR b=>Nat.beq a b
 |.dead,.dead=>true
 |_,_=>false
mutual
def I.beq:I->I->Bool
 |.bool a,.bool b=>a==b
 |.int j a,.int k b=>decide (j=k)&&a8 a b
 |.str a,.str b=>dd a b
 |.aZ,.aZ=>true
 |.ptr a i,.ptr b j=>Nat.beq a b&&Nat.beq i j
 |.aS,.aS=>true
 |.slice a i n c,.slice b j m d=>Nat.beq a b&&Nat.beq i j&&Nat.beq n m&&c.beq d
 |.ix,.ix=>true
 |.map a,.map b=>Nat.beq a b
 |.gb,.gb=>true
 |.fn f a b,.fn g c d=>Nat.beq f g&&I.n3 a c&&I.n3 b d
 |.dt a,.dt b=>Nat.beq a b
 |.e7,.e7=>true
 |.iface t v,.iface u w=>Nat.beq t u&&I.beq v w
 |.agg a,.agg b=>I.n3 a b
 |.aO a,.aO b=>I.n3 a b
 |_,_=>false
def I.n3:List I->List I->Bool
 |[],[]=>true
 |a::as,b::bs=>I.beq a b&&I.n3 as bs
 |_,_=>false
end
inductive QY where
 |pure|alloc|ew
def kindOf(P:Program):Op->QY
 |.move _|.assign _|.pick .. |.build .. |.load .. |.nilCheck _|.binOp .. |.unOp .. |.makeInterface .. |.makeFunc .. |.slice .. |.fieldAddr .. |.field .. |.indexAddr .. |.index .. |.lookup .. |.typeAssert .. |.extract .. =>.pure
 |.convert _ d _=>match P.underlying d with
  |some (.slice _)=>.ew
  |_=>.pure
 |.call c=>match c.callee with
  |.builtin .len|.builtin .cap|.builtin .min|.builtin .max|.builtin .unsafeSliceData=>.pure
  |_=>.ew
 |.alloc _|.box .. |.buildSlice .. |.makeSlice .. =>.alloc
 |.makeMap _ none=>.alloc
 |_=>.ew
def kC(P:Program)(o:Op)(g:Operand->I)(b:Nat):Option (I×dr):=
 match o with
 |.alloc e=>match ev P e with
  |some z=>match z.cells.all I.cO with
   |true=>some (.ptr b 0,.cells z.cells e .own 0 0)
   |false=>none
  |none=>none
 |.box e x=>match(g x).cells.all I.cO with
  |true=>some (.ptr b 0,.cells (g x).cells e .own 0 0)
  |false=>none
 |.buildSlice t len parts=>match P.underlying t with
  |some (.slice e)=>match dx P e,ev P e with
   |some sz,some z=>match Nat.ble (len*sz) 16777216&&Nat.beq z.cells.length sz,kh (λi=>some (i*sz,sz)) (if len*sz=0 then[] else fs len z.cells) (parts.toList.map λp=>(p.1,g p.2)) with
    |true,some cs=>match cs.all I.cO with
     |true=>some (.slice b 0 len (.exact len),.cells cs e .own 0 0)
     |false=>none
    |_,_=>none
   |_,_=>none
  |_=>none
 |.makeSlice t l c=>match P.underlying t,eI (g l),eI (g c) with
  |some (.slice e),some l,some c=>match P.info? e,ev P e with
   |some i,some z=>match decide (l<=c)&&Nat.ble (c*(i.bytes+1)) 1099511627776&&Nat.beq z.cells.length i.size,(if c*i.size=0 then[] else fs c z.cells) with
    |true,cs=>match cs.all I.cO with
     |true=>some (.slice b 0 l (.exact c),.cells cs e .own 0 0)
     |false=>none
    |_,_=>none
   |_,_=>none
  |_,_,_=>none
 |.makeMap _ none=>some (.map b,.map [] 0)
 |_=>none
structure DStep where
 i:Nat
 o:Oper
 e8:Nat
 loc:List (Nat×Acc)
def x4(gU:List Nat)(n:Nat)(o:Oper):Nat:=
 o.after.foldl (λs e=>match Region.binds .any e with
  |true=>s|||1<<<e.on|||(nth (n-1-e.on) gU).getD 0
  |false=>s) 0
def fh:List Oper->Nat->List (Nat×Acc)->List Nat->List DStep
 |[],_,_,_=>[]
 |o::l,n,loc,gU=>
  let m:=x4 gU n o
  ⟨n,o,m,loc⟩::fh l (n+1) (hC o n loc) (m::gU)
def jt:List Oper->Nat->List (Nat×Acc)->List (Nat×Acc)
 |[],_,loc=>loc
 |o::l,n,loc=>jt l (n+1) (hC o n loc)
def g9(P:Program)(need:Nat)(ops:Array Oper)(r:a2)(n:Nat)(env:List I)(s:DStep):Option (I×Bool):=
 match j0 P need ops s.loc s.o with
 |none=>none
 |some (a,b)=>some (dI n env r a,b)
inductive D4 where
 |ok (env:List I) (d:List bZ) (q:bL) (h:J) (bj:List (Nat×Nat×J))
 |ca (v:I) (env:List I) (d:List bZ) (q:bL) (h:J) (bj:List (Nat×Nat×J))
 |fail (jG:String)
def gC(P:Program)(need:Nat)(inR:Bool)(call:eJ->List I->J->a9)(ops:Array Oper)(r:a2)(cJ:Nat):List DStep->List I->List bZ->bL->J->List (Nat×Nat×J)->D4
 |[],env,d,q,h,bj=>.ok env d q h bj
 |s::rest,env,d,q,h,bj=>
  let gd:=g9 P need ops r s.i env s
  let g:=λx=>dI s.i env r (cR P need s.loc x)
  match kindOf P s.o.op with
  |.alloc=>match eK gd with
   |none=>.fail ("guard " ++s.o.pos)
   |some false=>gC P need inR call ops r cJ rest (.aO []::env) d q h bj
   |some true=>match kC P s.o.op g (cJ+s.i) with
    |some (v,o)=>gC P need inR call ops r cJ rest (v::env) d q (h.set (cJ+s.i) (some o)) bj
    |none=>.fail ("alloc " ++s.o.pos)
  |.pure=>match dV P inR call gd s.o g d q h with
   |.ok v _ _ _=>gC P need inR call ops r cJ rest (v::env) d q h bj
   |.ca _ _ _ _=>.fail ("pure " ++s.o.pos)
   |.fail w=>.fail w
  |.ew=>
   match(match bj with|[]=>true|(e,_,_)::_=>Nat.testBit s.e8 e) with
   |false=>.fail ("order " ++s.o.pos)
   |true=>match dV P inR call gd s.o g d q h with
    |.ok v bh bn an=>gC P need inR call ops r cJ rest (v::env) bh bn an ((s.i,s.e8,h)::bj)
    |.ca v bh bn an=>match rest.all (λbd=>Nat.testBit bd.e8 s.i) with
     |true=>.ca v env bh bn an ((s.i,s.e8,h)::bj)
     |false=>.fail ("panic " ++s.o.pos)
    |.fail w=>.fail w
def mv(P:Program)(need:Nat)(ops:Array Oper)(r:a2)(n:Nat)(env:List I)(s:DStep)(v:I)(h:J):Bool:=
 match eK (g9 P need ops r n env s) with
 |none=>false
 |some false=>true
 |some true=>match cP P s.o (λx=>dI n env r (cR P need s.loc x)) h with
  |.val v' _=>I.beq v' v
  |_=>false
def lk(P:Program)(need:Nat)(ops:Array Oper)(r:a2)(n:Nat)(env:List I)(s:DStep)(v:I):Option Nat->J->List (Nat×Nat×J)->Bool
 |d_,h,bj=>
  (match(match d_ with|none=>false|some e=>Nat.testBit s.e8 e)||(match bj with|[]=>false|(_,m,_)::_=>Nat.testBit m s.i) with
   |true=>true
   |false=>mv P need ops r n env s v h)&&
  (match bj with
   |[]=>true
   |(e,_,an)::rest=>lk P need ops r n env s v (some e) an rest)
def lW(P:Program)(need:Nat)(ops:Array Oper)(r:a2)(n:Nat)(env:List I)(last:Option Nat)(h:J)(bj:List (Nat×Nat×J)):List DStep->Bool
 |[]=>true
 |s::rest=>(match Nat.blt s.i n,kindOf P s.o.op with
   |true,.pure=>lk P need ops r n env s ((nth (n-1-s.i) env).getD .bad) last h bj
   |_,_=>true)&&lW P need ops r n env last h bj rest
def tD(P:Program)(need:Nat)(inR:Bool)(call:eJ->List I->J->a9)(ops:Array Oper)(r:a2)(d:List bZ)(q:bL)(h:J):na:=
 let steps:=fh ops.toList 0 [] []
 match gC P need inR call ops r h.n steps [] d q ⟨h.t,h.n+ops.size⟩ [] with
 |.ok env bh bn an bj=>match lW P need ops r env.length env none an bj steps with
  |true=>.ok env bh bn an
  |false=>.fail "orders"
 |.ca v env bh bn an bj=>match bj with
  |(e,_,h0)::rest=>match lW P need ops r env.length env (some e) h0 rest steps with
   |true=>.ca v bh bn an
   |false=>.fail "orders"
  |[]=>.fail "orders"
 |.fail w=>.fail w
def pR(need:Nat)(m:Nat)(env:List I)(fM:a2):List (Nat×Acc)->a2->a2
 |[],r=>r
 |(t,a)::l,r=>
  let r':=pR need m env fM l r
  match Nat.testBit need t with
  |true=>r'.set (hh t) (dI m env fM a)
  |false=>r'
def vG:List (Nat×Acc)->a2->a2
 |[],r=>r
 |(t,_)::l,r=>(vG l r).set (hh t) .bad
def nd(need:Nat)(r:a2)(loc:List (Nat×Acc)):na->jZ
 |.ok env d q h=>.ok .nrm (pR need env.length env r loc r) d q h
 |.ca v d q h=>.ok (.ca v) (vG loc r) d q h
 |.fail w=>.fail w
def qQ(x:jZ)(f:a2->List bZ->bL->J->jZ):jZ:=
 match x with
 |.ok .nrm r d q h=>f r d q h
 |x=>x
def pS(f:a2->List bZ->bL->J->jZ):Nat->a2->List bZ->bL->J->jZ
 |0,_,_,_,_=>.fail "loop fuel"
 |n+1,r,d,q,h=>qQ (f r d q h) (pS f n)
def oR(rd:Option Nat)(n:Nat):Nat:=match rd with
 |none=>n+1
 |some _=>n
def x5(need:Nat)(rd:Option Nat)(r:a2)(ps:List Nat)(as cy:Code)(d:List bZ)(h:J):Option (List bZ×J):=
 match rd with
 |none=>some (.collected h.n::d,(h.push (.defrd (some []))).push (.loop .ready none need r ps as cy h.n))
 |some D5=>match h.get D5 with
  |some (.loop _ _ _ _ _ _ _ eU)=>some (d,h.push (.loop .ready none need r ps as cy eU))
  |_=>none
def n4(l:Nat)(r:a2)(d:List bZ)(q:bL):a9->jZ
 |.ret _ h=>match h.get l with
  |some (.loop st gf hi rg ps as cy eU)=>match st with
   |.busy=>.fail "rangeFunc: busy"
   |_=>match gf with
    |none=>.ok .nrm r d q (h.set l (some (.loop .exhausted gf hi rg ps as cy eU)))
    |some .ret=>.ok .ret r d q (h.set l (some (.loop .exhausted gf hi rg ps as cy eU)))
    |some (.exit id)=>.ok (.exit id) r d q (h.set l (some (.loop .exhausted gf hi rg ps as cy eU)))
    |_=>.fail "rangeFunc: goto"
  |_=>.fail "rangeFunc: loop gone"
 |.ca v h=>.ok (.ca v) r d q h
 |.fail w=>.fail w
def dJ(P:Program)(need:Nat)(rd:Option Nat)(call:eJ->List I->J->a9):Code->a2->List bZ->bL->J->jZ
 |.skip,r,d,q,h=>.ok .nrm r d q h
 |.region id ops draw,r,d,q,h=>
  match draw with
  |false=>
   let pl:=pQ P need ops
   nd need r pl.loc (iG P need rd.isSome call r pl.steps [] d q h)
  |true=>nd need r (jt ops.toList 0 []) (tD P need rd.isSome call ops r d q h)
 |.seq a b,r,d,q,h=>qQ (dJ P need rd call a r d q h) (dJ P need rd call b)
 |.cond c a b,r,d,q,h=>match dI 0 [] r (cR P need [] c) with
  |.bool true=>dJ P need rd call a r d q h
  |.bool false=>dJ P need rd call b r d q h
  |_=>.fail "cond"
 |.block id b,r,d,q,h=>match dJ P need rd call b r d q h with
  |.ok (.exit i) r' bh bn an=>if i=id then .ok .nrm r' bh bn an else .ok (.exit i) r' bh bn an
  |x=>x
 |.loop b,r,d,q,h=>pS (dJ P need rd call b) 100000 r d q h
 |.exit id,r,d,q,h=>.ok (.exit id) r d q h
 |.ret,r,d,q,h=>.ok .ret r d q h
 |.label _,r,d,q,h=>.ok .nrm r d q h
 |.goto l,r,d,q,h=>.fail "goto"
 |.scope b,r,d,q,h=>dJ P need rd call b r d q h
 |.rangeFunc f params assign body,r,d,q,h=>
  match x5 need rd r params.toList assign body d h with
  |none=>.fail "rangeFunc"
  |some (bh,aa)=>
   match tC (dI 0 [] r (cR P need [] f)) [.dt (oR rd h.n)] aa with
   |.call g args ad=>n4 (oR rd h.n) r bh q (call (.fn g) args ad)
   |.dt bV args ad=>n4 (oR rd h.n) r bh q (call (.dt bV) args ad)
   |_=>.fail "rangeFunc: no function"
 |.refuse w,_,_,_,_=>.fail ("refuse " ++w)
def bit(t:Nat):Nat:=1<<<t
def IS:List Oper->Nat->Nat->Nat
 |[],_,acc=>acc
 |o::l,written,acc=>
  let acc:=o.op.operands.foldl (λa x=>match x with
   |.tmp t=>if Nat.testBit written t then a else a|||bit t
   |_=>a) acc
  IS l (match o.dst with|some t=>written|||bit t|none=>written) acc
def IT:Operand->Nat
 |.tmp t=>bit t
 |_=>0
def r5:Code->Nat->Nat
 |.region _ ops _,acc=>IS ops.toList 0 acc
 |.seq a b,acc=>r5 b (r5 a acc)
 |.cond c a b,acc=>r5 b (r5 a (acc|||IT c))
 |.block _ b,acc|.loop b,acc|.scope b,acc=>r5 b acc
 |.rangeFunc f ps a b,acc=>r5 b (r5 a (acc|||IT f|||ps.foldl (λa t=>a|||bit t) 0))
 |_,acc=>acc
def dR(fn:Func):Nat:=
 let rs:=fn.results.foldl (λa r=>match r with|.tmp t=>a|||bit t|.cell t _=>a|||bit t) 0
 match fn.body with
 |some c=>r5 c rs
 |none=>rs
def n5:Nat->List I->a2->a2
 |_,[],r=>r
 |i,v::l,r=>n5 (i+1) l (r.set (hh i) v)
def r6(P:Program)(need:Nat)(r:a2)(h:J)(x:ResultVar):Option I:=
 match x with
 |.tmp t=>match Nat.testBit need t with
  |true=>some (r.get (hh t))
  |false=>none
 |.cell t ty=>match Nat.testBit need t with
  |true=>match r.get (hh t),qM P ty,dx P ty with
   |.ptr b off,some true,some n=>(match loadCells h b off n with|some cs=>some (.agg cs)|none=>none)
   |.ptr b off,some false,_=>ar h b off
   |_,_,_=>none
  |false=>none
def pU(f:ResultVar->Option I):List ResultVar->Option (List I)
 |[]=>some []
 |x::l=>match f x,pU f l with
  |some v,some vs=>some (v::vs)
  |_,_=>none
def qR(P:Program)(need:Nat)(fn:Func)(r:a2)(h:J):Option I:=
 match pU (r6 P need r h) fn.results.toList with
 |some [v]=>some v
 |some vs=>some (.aO vs)
 |none=>none
def oS(c:Nat):List UInt8->Nat->Int
 |[],_=>-1
 |b::l,i=>match Nat.beq b.toNat c with
  |true=>Int.ofNat i
  |false=>oS c l (i+1)
def r7(P:Program)(fn:Func)(name:String)(args:List I)(h:J):Option (I×J):=
 match args with
 |[.int .i64 (.ofNat n)]=>if name= "internal/bytealg.MakeNoZero" then
    (match fn.resultTypes[0]? with
    |some t=>match P.underlying t with
     |some (.slice e)=>match Nat.ble n 1099511627776 with
      |true=>some (.slice h.n 0 n (.aR 1),h.push (.cells (List.replicate n .bad) e .aR 0 0))
      |false=>none
     |_=>none
    |none=>none) else none
 |[x]=>if name= "internal/abi.NoEscape" then some (x,h) else
  if name= "maps.clone" then(match x with
   |.iface t (.map r)=>match h.get r with
    |some (.map es c)=>some (.iface t (.map h.n),h.push (.map es c))
    |_=>none
   |_=>none) else none
 |[.str s,.int .u8 (.ofNat c)]=>if name= "internal/bytealg.IndexByteString" then
    (match Nat.blt c 256 with
    |true=>some (.int .i64 (oS c s 0),h)
    |false=>none) else none
 |_=>none
def vH:Option I->bL
 |some v=>.act v
 |none=>.none
def x6(q:bL)(et:Option I):Option I:=match q with
 |.done _=>none
 |_=>et
def nf(P:Program)(call:eJ->List I->J->a9)(fn:Func)(args:List I)(q:bL)(h:J):jZ:=
 match fn.body with
 |some c=>match Nat.ble args.length fn.ntmps with
  |true=>dJ P (dR fn) none call c (n5 0 args .leaf) [] q h
  |false=>.fail "too many arguments"
 |none=>.fail "no body"
def IU(P:Program)(fn:Func)(et:Option I):jZ->Option (Option I×J)
 |.ok e r d q h=>match(match e with|.nrm=>true|.ret=>true|_=>false),d,qR P (dR fn) fn r h with
  |true,[],some _=>some (x6 q et,h)
  |_,_,_=>none
 |.fail _=>none
def jJ(P:Program)(call:eJ->List I->J->a9)(need:Nat)(fn:Func)(r:a2):Nat->Option I->List bZ->J->a9
 |0,_,_,_=>.fail "defers"
 |k+1,et,ds,h=>match ds with
  |[]=>match et with
   |none=>match qR P need fn r h with
    |some v=>.ret v h
    |none=>.fail "results"
   |some v=>.ca v h
  |.collected b::ds=>match h.get b with
   |some (.defrd (some cs))=>jJ P call need fn r k et (cs++ds) (h.set b (some (.defrd none)))
   |_=>.fail "collected"
  |.call g args::ds=>
   match P.funcs[g]? with
   |some hP=>match IU P hP et (nf P call hP args (vH et) h) with
    |some (vI,an)=>jJ P call need fn r k vI ds an
    |none=>.fail "deferred call"
   |none=>.fail "deferred"
def pV(P:Program)(call:eJ->List I->J->a9)(fn:Func):jZ->a9
 |.ok .nrm r d _ h=>jJ P call (dR fn) fn r 100 none d h
 |.ok .ret r d _ h=>jJ P call (dR fn) fn r 100 none d h
 |.ok (.ca v) r d _ h=>jJ P call (dR fn) fn r 100 (some v) d h
 |.ok _ _ _ _ _=>.fail "exit out of a function"
 |.fail w=>.fail (w++ " < " ++fn.name)
def qS(P:Program)(call:eJ->List I->J->a9)(f:Nat)(args:List I)(h:J):a9:=
 match P.funcs[f]? with
 |none=>.fail "no function"
 |some fn=>
  match fn.body with
  |none=>match r7 P fn fn.name args h with
   |some (v,an)=>.ret v an
   |none=>.fail ("extern " ++fn.name)
  |some _=>pV P call fn (nf P call fn args .none h)
def vJ:List Nat->List I->a2->Option a2
 |[],[],r=>some r
 |t::ck,v::vs,r=>vJ ck vs (r.set (hh t) v)
 |_,_,_=>none
def x7(l:Nat):jZ->a9
 |.ok e _ [] _ h=>match h.get l with
  |some (.loop .busy _ hi rg ps as cy eU)=>match e with
   |.nrm=>.ret (.bool true) (h.set l (some (.loop .ready none hi rg ps as cy eU)))
   |.ret=>.ret (.bool false) (h.set l (some (.loop .done (some .ret) hi rg ps as cy eU)))
   |.exit id=>.ret (.bool false) (h.set l (some (.loop .done (some (.exit id)) hi rg ps as cy eU)))
   |.ca v=>.ca v h
   |.goto _=>.fail "goto in a round"
  |_=>.fail "round"
 |.ok .. =>.fail "round defers"
 |.fail w=>.fail (w++ " < round")
def D6(P:Program)(call:eJ->List I->J->a9)(l need:Nat)(cy:Code):jZ->a9
 |.ok .nrm r [] _ h=>match h.get l with
  |some (.loop .ready gf hi rg ps A0 A1 eU)=>x7 l (dJ P need (some l) call cy r [] .none (h.set l (some (.loop .busy gf hi rg ps A0 A1 eU))))
  |_=>.fail "round"
 |.ok .. =>.fail "round assign"
 |.fail w=>.fail w
def tE(P:Program)(call:eJ->List I->J->a9)(l:Nat)(args:List I)(h:J):a9:=
 match h.get l with
 |some (.loop .ready _ need rg ps as cy _)=>
  match vJ ps args rg with
  |none=>.fail "yield: arguments"
  |some fM=>D6 P call l need cy (dJ P need (some l) call as fM [] .none h)
 |_=>.fail "yield"
def fp(P:Program)(intr:Nat->List I->J->Option (I×J)):Nat->eJ->List I->J->a9
 |0,_,_,_=>.fail "depth"
 |n+1,.fn f,args,h=>match intr f args h with
  |some (v,an)=>.ret v an
  |none=>qS P (fp P intr n) f args h
 |n+1,.dt l,args,h=>tE P (fp P intr n) l args h
def r8(n:Nat):J:=⟨.leaf,n⟩
def mw(ops:Array Oper)(o:Oper):List Nat:=
 o.dst.toList++(o.op.operands.toList.filterMap λ|.tmp t=>some t|_=>none)++(match o.guard with|some (j,_)=>((ops[j]?).bind (·.dst)).toList|none=>[])
def oT(o:Oper)(i:Nat):Bool:=o.after.toList.all λe=>!Region.binds .any e||Nat.blt e.on i
def A2(ops:Array Oper)(s:DStep):List DStep->Bool
 |[]=>true
 |bd::l=>(match(match s.o.dst with|some t=>(mw ops bd.o).contains t|none=>false)||(match bd.o.dst with|some t=>(mw ops s.o).contains t|none=>false) with
   |true=>Nat.testBit bd.e8 s.i
   |false=>true)&&A2 ops s l
def qT(ops:Array Oper):List DStep->Bool
 |[]=>true
 |s::l=>oT s.o s.i&&A2 ops s l&&qT ops l
def hQ(bW:Nat):Code->Bool
 |.region _ ops draw=>ops.toList.all (λo=>match o.dst with|some t=>Nat.blt t bW|none=>true)&&(!draw||qT ops (fh ops.toList 0 [] []))
 |.seq a b=>hQ bW a&&hQ bW b
 |.cond _ a b=>hQ bW a&&hQ bW b
 |.block _ b|.loop b|.scope b=>hQ bW b
 |.rangeFunc _ ps a b=>ps.toList.all (λt=>Nat.blt t bW)&&hQ bW a&&hQ bW b
 |_=>true
end bt
namespace bt
open Go
def iF.num:iF->Nat
 |.here=>0
 |.l p=>2*p.num+1
 |.r p=>2*p.num+2
theorem IV:∀(f n:Nat),n<=f->(xW f n).num=n
 |0,n,h=>by
  obtain rfl:n=0:=by omega
  rfl
 |f+1,0,_=>rfl
 |f+1,m+1,h=>by
  have e:Nat.mod m 2=m %2:=rfl
  have ax:Nat.div m 2=m/2:=rfl
  have bb:=IV f (m/2) (by omega)
  simp only[xW,e,ax]
  rcases Nat.mod_two_eq_zero_or_one m with h0|aa
  · simp only[h0,iF.num,bb];omega
  · simp only[aa,iF.num,bb];omega
theorem A3(n:Nat):(hh n).num=n:=IV n n (Nat.le_refl n)
theorem QZ{m n:Nat}(h:hh m=hh n):m=n:=by rw[<-A3 m,<-A3 n,h]
theorem a2.r9(l:a2)(v:I)(r:a2):a2.D0 l v r=.node l v r:=by cases l<;>rfl
theorem a2.r_(l:a2)(v:I)(r:a2):a2.D1 l v r=.node l v r:=by cases r<;>rfl
theorem a2.n6(p:iF):a2.get p .leaf=.bad:=by cases p<;>rfl
theorem a2.x8:∀(p:iF) (v:I) (t:a2),(a2.set p v t).get p=v
 |.here,v,.leaf=>rfl
 |.here,v,.node .. =>rfl
 |.l p,v,.leaf=>by simp only[a2.set,a2.r9,a2.get];exact x8 p v _
 |.l p,v,.node l _ _=>by simp only[a2.set,a2.r9,a2.get];exact x8 p v _
 |.r p,v,.leaf=>by simp only[a2.set,a2.r_,a2.get];exact x8 p v _
 |.r p,v,.node .. =>by simp only[a2.set,a2.r_,a2.get];exact x8 p v _
theorem a2.x9:∀(p q:iF) (v:I) (t:a2),p≠q->(a2.set q v t).get p=t.get p
 |.here,.here,_,_,h=>absurd rfl h
 |.here,.l q,v,.leaf,_=>by simp[a2.set,a2.r9,a2.get]
 |.here,.l q,v,.node ..,_=>by simp[a2.set,a2.r9,a2.get]
 |.here,.r q,v,.leaf,_=>by simp[a2.set,a2.r_,a2.get]
 |.here,.r q,v,.node ..,_=>by simp[a2.set,a2.r_,a2.get]
 |.l p,.here,v,.leaf,_=>by simp[a2.set,a2.get,a2.n6]
 |.l p,.here,v,.node ..,_=>by simp[a2.set,a2.get]
 |.r p,.here,v,.leaf,_=>by simp[a2.set,a2.get,a2.n6]
 |.r p,.here,v,.node ..,_=>by simp[a2.set,a2.get]
 |.l p,.l q,v,.leaf,h=>by
  simp only[a2.set,a2.r9,a2.get]
  rw[x9 p q v _ (λe=>h (by rw[e])),a2.n6]
 |.l p,.l q,v,.node ..,h=>by
  simp only[a2.set,a2.r9,a2.get]
  exact x9 p q v _ (λe=>h (by rw[e]))
 |.r p,.r q,v,.leaf,h=>by
  simp only[a2.set,a2.r_,a2.get]
  rw[x9 p q v _ (λe=>h (by rw[e])),a2.n6]
 |.r p,.r q,v,.node ..,h=>by
  simp only[a2.set,a2.r_,a2.get]
  exact x9 p q v _ (λe=>h (by rw[e]))
 |.l p,.r q,v,.leaf,_=>by simp[a2.set,a2.r_,a2.get,a2.n6]
 |.l p,.r q,v,.node ..,_=>by simp[a2.set,a2.r_,a2.get]
 |.r p,.l q,v,.leaf,_=>by simp[a2.set,a2.r9,a2.get,a2.n6]
 |.r p,.l q,v,.node ..,_=>by simp[a2.set,a2.r9,a2.get]
theorem a2.c7(t u:Nat)(v:I)(r:a2):(a2.set (hh u) v r).get (hh t)=if t=u then v else r.get (hh t):=by
 by_cases h:t=u
 · subst h;simp[a2.x8]
 · rw[if_neg h];exact a2.x9 _ _ _ _ (λe=>h (QZ e))
theorem ff.n6(n:Nat):ff.get .leaf n=none:=rfl
theorem ff.c7:∀(f:Nat) (t:ff) (n m:Nat) (x:Option dr),n<f->(ff.lS f t n x).get m=if m=n then x else t.get m
 |0,_,n,_,_,h=>by omega
 |f+1,.leaf,0,m,x,_=>by
  cases m with
  |zero=>simp[ff.lS,ff.get]
  |succ m=>
   simp only[ff.lS,ff.get]
   have e:Nat.mod m 2=m %2:=rfl
   rcases Nat.mod_two_eq_zero_or_one m with h|h<;>simp[e,h]
 |f+1,.node l v r,0,m,x,_=>by
  cases m with
  |zero=>simp[ff.lS,ff.get]
  |succ m=>simp[ff.lS,ff.get]
 |f+1,.leaf,n+1,m,x,aN=>by
  have e (k:Nat):Nat.mod k 2=k %2:=rfl
  have ax (k:Nat):Nat.div k 2=k/2:=rfl
  have bb:=λj=>c7 f .leaf (n/2) j x (by omega)
  rcases Nat.mod_two_eq_zero_or_one n with h|h
  · simp only[ff.lS,e,h,ax]
    cases m with
    |zero=>simp[ff.get]
    |succ m=>
     simp only[ff.get,e,ax]
     rcases Nat.mod_two_eq_zero_or_one m with g|g
     · simp only[g,bb,ff.n6]
       have:(m/2=n/2)<->(m+1=n+1):=by omega
       simp only[this]
     · simp only[g,ff.n6]
       rw[if_neg (by omega)]
  · simp only[ff.lS,e,h,ax]
    cases m with
    |zero=>simp[ff.get]
    |succ m=>
     simp only[ff.get,e,ax]
     rcases Nat.mod_two_eq_zero_or_one m with g|g
     · simp only[g,ff.n6]
       rw[if_neg (by omega)]
     · simp only[g,bb,ff.n6]
       have:(m/2=n/2)<->(m+1=n+1):=by omega
       simp only[this]
 |f+1,.node l v r,n+1,m,x,aN=>by
  have e (k:Nat):Nat.mod k 2=k %2:=rfl
  have ax (k:Nat):Nat.div k 2=k/2:=rfl
  have Q0:=λj=>c7 f l (n/2) j x (by omega)
  have A4:=λj=>c7 f r (n/2) j x (by omega)
  rcases Nat.mod_two_eq_zero_or_one n with h|h
  · simp only[ff.lS,e,h,ax]
    cases m with
    |zero=>simp[ff.get]
    |succ m=>
     simp only[ff.get,e,ax]
     rcases Nat.mod_two_eq_zero_or_one m with g|g
     · simp only[g,Q0]
       have:(m/2=n/2)<->(m+1=n+1):=by omega
       simp only[this]
     · simp only[g]
       rw[if_neg (by omega)]
  · simp only[ff.lS,e,h,ax]
    cases m with
    |zero=>simp[ff.get]
    |succ m=>
     simp only[ff.get,e,ax]
     rcases Nat.mod_two_eq_zero_or_one m with g|g
     · simp only[g]
       rw[if_neg (by omega)]
     · simp only[g,A4]
       have:(m/2=n/2)<->(m+1=n+1):=by omega
       simp only[this]
theorem J.c7(h:J)(b c:Nat)(o:Option dr):(h.set b o).get c=if c=b then o else h.get c:=
 ff.c7 _ _ _ _ _ (Nat.lt_succ_self b)
theorem J.gD(h:J)(c:Nat)(o:dr):(h.push o).get c=if c=h.n then some o else h.get c:=
 ff.c7 _ _ _ _ _ (Nat.lt_succ_self _)
@[simp] theorem J.vK (h:J) (b:Nat) (o:Option dr):(h.set b o).n=h.n:=rfl
@[simp] theorem J.sa (h:J) (o:dr):(h.push o).n=h.n+1:=rfl
structure eX where
 bo:Nat
 base:Nat
 size:Nat
abbrev bz:=Nat->Option eX
def fi(μ a0:bz):Prop:=∀b i,μ b=some i->a0 b=some i
theorem fi.refl(μ:bz):fi μ μ:=λ_ _ h=>h
theorem fi.trans{μ a0 IW:bz}(h:fi μ a0)(an:fi a0 IW):fi μ IW:=λb i e=>an b i (h b i e)
def D7(i:eX)(off len:Nat):bR->Value->Prop
 |.exact c,v=>v=.slice (some ⟨i.bo,i.base+off,none⟩) len c
 |.aR gR,v=>∃c,v=.slice (some ⟨i.bo,i.base+off,none⟩) len c/\len<=c/\off+c*gR=i.size
 |.dead,v=>len=0/\∃a c,v=.slice (some a) 0 c
mutual
def bp(μ:bz):I->Value->Prop
 |.bad,_=>True
 |.bool b,v=>v=.bool b
 |.int k n,v=>v=.int k n
 |.str s,v=>∃t,v=.string t/\t.data.toList=s
 |.aZ,v=>v=.pointer none
 |.ptr b off,v=>∃i,μ b=some i/\v=.pointer (some ⟨i.bo,i.base+off,none⟩)
 |.aS,v=>v=.slice none 0 0
 |.slice b off len cap,v=>∃i,μ b=some i/\D7 i off len cap v
 |.ix,v=>v=.map none
 |.map r,v=>∃i,μ r=some i/\v=.map (some i.bo)
 |.gb,v=>v=.nilFunc
 |.fn f first aV,v=>∃b0 cs,v=.func (.func f) ⟨b0⟩ ⟨cs⟩/\cm μ first b0/\cm μ aV cs
 |.dt l,v=>∃i,μ l=some i/\v=.func (.yield i.bo) ⟨[]⟩ ⟨[]⟩
 |.e7,v=>v=.nilIface
 |.iface t x,v=>∃y,v=.iface t y/\bp μ x y
 |.agg cs,v=>∃l,v=.agg ⟨l⟩/\cm μ cs l
 |.aO vs,v=>∃l,v=.tuple ⟨l⟩/\cm μ vs l
def cm(μ:bz):List I->List Value->Prop
 |[],l=>l=[]
 |a::as,l=>∃v vs,l=v::vs/\bp μ a v/\cm μ as vs
end
mutual
theorem bp.mono{μ a0:bz}(hle:fi μ a0):∀(a:I) (v:Value),bp μ a v->bp a0 a v
 |.bad,_,_=>trivial
 |.bool _,_,h=>h
 |.int _ _,_,h=>h
 |.str _,_,h=>h
 |.aZ,_,h=>h
 |.ptr b off,_,⟨i,h,e⟩=>⟨i,hle _ _ h,e⟩
 |.aS,_,h=>h
 |.slice b off len cap,_,⟨i,h,e⟩=>⟨i,hle _ _ h,e⟩
 |.ix,_,h=>h
 |.map r,_,⟨i,h,e⟩=>⟨i,hle _ _ h,e⟩
 |.gb,_,h=>h
 |.fn f first aV,_,⟨b0,cs,e,aa,ad⟩=>⟨b0,cs,e,cm.mono hle _ _ aa,cm.mono hle _ _ ad⟩
 |.dt l,_,⟨i,h,e⟩=>⟨i,hle _ _ h,e⟩
 |.e7,_,h=>h
 |.iface t x,_,⟨y,e,h⟩=>⟨y,e,bp.mono hle _ _ h⟩
 |.agg cs,_,⟨l,e,h⟩=>⟨l,e,cm.mono hle _ _ h⟩
 |.aO cs,_,⟨l,e,h⟩=>⟨l,e,cm.mono hle _ _ h⟩
theorem cm.mono{μ a0:bz}(hle:fi μ a0):∀(as:List I) (vs:List Value),cm μ as vs->cm a0 as vs
 |[],_,h=>h
 |a::as,_,⟨v,vs,e,aa,ad⟩=>⟨v,vs,e,bp.mono hle _ _ aa,cm.mono hle _ _ ad⟩
end
mutual
theorem kD(μ:bz):∀v:Value,bp μ (oP v) v
 |.bool b=>rfl
 |.int k n=>rfl
 |.string s=>⟨s,rfl,rfl⟩
 |.pointer none=>rfl
 |.pointer (some _)=>trivial
 |.slice none 0 0=>rfl
 |.slice none 0 (_+1)=>trivial
 |.slice none (_+1) _=>trivial
 |.slice (some _) _ _=>trivial
 |.map none=>rfl
 |.map (some _)=>trivial
 |.nilFunc=>rfl
 |.nilIface=>rfl
 |.agg ⟨cs⟩=>⟨cs,rfl,D8 μ cs⟩
 |.tuple ⟨cs⟩=>⟨cs,rfl,D8 μ cs⟩
 |.float _ _=>trivial
 |.complex _ _ _=>trivial
 |.chan _=>trivial
 |.func _ _ _=>trivial
 |.iface _ _=>trivial
theorem D8(μ:bz):∀vs:List Value,cm μ (AU vs) vs
 |[]=>rfl
 |v::vs=>⟨v,vs,rfl,kD μ v,D8 μ vs⟩
end
theorem cm.length{μ:bz}:∀{as:List I} {vs:List Value},cm μ as vs->as.length=vs.length
 |[],_,h=>by cases h;rfl
 |a::as,_,⟨v,vs,e,_,ad⟩=>by subst e;simp[cm.length ad]
theorem cm.append{μ:bz}:∀{as bs:List I} {vs us:List Value},cm μ as vs->cm μ bs us->cm μ (as++bs) (vs++us)
 |[],_,_,_,h,an=>by cases h;exact an
 |a::as,_,_,_,⟨v,vs,e,aa,ad⟩,an=>by subst e;exact⟨v,vs++_,rfl,aa,cm.append ad an⟩
theorem cm.get{μ:bz}:∀{as:List I} {vs:List Value} (_:cm μ as vs) {j:Nat} {a:I},as[j]? =some a->∃v,vs[j]? =some v/\bp μ a v
 |[],_,_,j,a,h=>by simp at h
 |x::as,_,⟨v,vs,e,aa,ad⟩,0,a,h=>by
  subst e;simp at h;subst h;exact⟨v,rfl,aa⟩
 |x::as,_,⟨v,vs,e,aa,ad⟩,j+1,a,h=>by
  subst e;simp at h;simpa using cm.get ad h
theorem cm.x_{μ:bz}:∀{as:List I} {vs:List Value},as.length=vs.length->(∀(j:Nat) (a:I),as[j]? =some a->∃v,vs[j]? =some v/\bp μ a v)->cm μ as vs
 |[],[],_,_=>rfl
 |[],_::_,h,_=>by simp at h
 |_::_,[],h,_=>by simp at h
 |a::as,v::vs,h,ak=>by
  refine⟨v,vs,rfl,?_,cm.x_ (by simpa using h) λj x ab=>?_⟩
  · obtain⟨u,hu,r⟩:=ak 0 a rfl
    simp at hu;subst hu;exact r
  · simpa using ak (j+1) x (by simpa using ab)
theorem cm.map{μ:bz}{tF:Type}(g:tF->I)(cD:tF->Value)(h:∀x,bp μ (g x) (cD x)):∀l:List tF,cm μ (l.map g) (l.map cD)
 |[]=>rfl
 |x::l=>⟨_,_,rfl,h x,cm.map g cD h l⟩
theorem bp.cells{μ:bz}{a:I}{v:Value}(h:bp μ a v)(ae:a≠ .bad):cm μ a.cells v.cells.toList:=by
 cases a with
 |bad=>exact absurd rfl ae
 |agg cs=>obtain⟨l,rfl,aw⟩:=h;exact aw
 |aO vs=>obtain⟨l,rfl,aw⟩:=h;exact⟨_,_,rfl,⟨l,rfl,aw⟩,rfl⟩
 |bool b=>cases h;exact⟨_,_,rfl,rfl,rfl⟩
 |int k n=>cases h;exact⟨_,_,rfl,rfl,rfl⟩
 |str s=>obtain⟨t,rfl,e⟩:=h;exact⟨_,_,rfl,⟨t,rfl,e⟩,rfl⟩
 |aZ=>cases h;exact⟨_,_,rfl,rfl,rfl⟩
 |ptr b off=>obtain⟨i,e,rfl⟩:=h;exact⟨_,_,rfl,⟨i,e,rfl⟩,rfl⟩
 |aS=>cases h;exact⟨_,_,rfl,rfl,rfl⟩
 |slice b off len cap=>
  obtain⟨i,e,ag⟩:=h
  have:v.cells=#[v]:=by
   cases cap with
   |exact c=>cases ag;rfl
   |aR gR=>obtain⟨c,rfl,_⟩:=ag;rfl
   |dead=>obtain⟨_,a,c,rfl⟩:=ag;rfl
  rw[this];exact⟨_,_,rfl,⟨i,e,ag⟩,rfl⟩
 |ix=>cases h;exact⟨_,_,rfl,rfl,rfl⟩
 |map r=>obtain⟨i,e,rfl⟩:=h;exact⟨_,_,rfl,⟨i,e,rfl⟩,rfl⟩
 |gb=>cases h;exact⟨_,_,rfl,rfl,rfl⟩
 |fn f a b=>obtain⟨b0,cs,rfl,aa,ad⟩:=h;exact⟨_,_,rfl,⟨b0,cs,rfl,aa,ad⟩,rfl⟩
 |dt l=>obtain⟨i,e,rfl⟩:=h;exact⟨_,_,rfl,⟨i,e,rfl⟩,rfl⟩
 |e7=>cases h;exact⟨_,_,rfl,rfl,rfl⟩
 |iface t x=>obtain⟨y,rfl,aU⟩:=h;exact⟨_,_,rfl,⟨y,rfl,aU⟩,rfl⟩
theorem bp.ya{μ:bz}{a:I}{v:Value}(h:bp μ a v)(ag:a.cO=true):v.oneCell'=true:=by
 cases a with
 |bad=>simp[I.cO] at ag
 |agg cs=>simp[I.cO] at ag
 |aO vs=>simp[I.cO] at ag
 |bool b=>cases h;rfl
 |int k n=>cases h;rfl
 |str s=>obtain⟨t,rfl,e⟩:=h;rfl
 |aZ=>cases h;rfl
 |ptr b off=>obtain⟨i,e,rfl⟩:=h;rfl
 |aS=>cases h;rfl
 |slice b off len cap=>
  obtain⟨i,e,ag⟩:=h
  cases cap with
  |exact c=>cases ag;rfl
  |aR gR=>obtain⟨c,rfl,_⟩:=ag;rfl
  |dead=>obtain⟨_,a,c,rfl⟩:=ag;rfl
 |ix=>cases h;rfl
 |map r=>obtain⟨i,e,rfl⟩:=h;rfl
 |gb=>cases h;rfl
 |fn f a b=>obtain⟨b0,cs,rfl,aa,ad⟩:=h;rfl
 |dt l=>obtain⟨i,e,rfl⟩:=h;rfl
 |e7=>cases h;rfl
 |iface t x=>obtain⟨y,rfl,aU⟩:=h;rfl
def i_(need:Nat)(μ:bz)(r:a2)(cn:Array Value):Prop:=∀t,Nat.testBit need t=true->bp μ (r.get (hh t)) (cn.getD t undef)
theorem i_.mono{need:Nat}{μ a0:bz}{r:a2}{cn:Array Value}(hle:fi μ a0)(h:i_ need μ r cn):i_ need a0 r cn:=λt bc=>(h t bc).mono hle
inductive tG(μ:bz):bZ->Deferred->Prop where
 |call (f:Nat) (args:List I) (cap vs:List Value) (h:cm μ args (vs++cap)):tG μ (.call f args) {target:=.fn (.func f) ⟨cap⟩,args:=⟨vs⟩}
 |collected (r:Nat) (i:eX) (h:μ r=some i):tG μ (.collected r) {target:=.collected i.bo,args:=#[]}
theorem tG.mono{μ a0:bz}(hle:fi μ a0){a:bZ}{d:Deferred}(h:tG μ a d):tG a0 a d:=by
 cases h with
 |call f args cap vs h=>exact .call f args cap vs (h.mono hle)
 |collected r i h=>exact .collected r i (hle _ _ h)
def gE(μ:bz):List bZ->List Deferred->Prop
 |[],l=>l=[]
 |a::as,l=>∃d ds,l=d::ds/\tG μ a d/\gE μ as ds
theorem gE.mono{μ a0:bz}(hle:fi μ a0):∀{as:List bZ} {ds:List Deferred},gE μ as ds->gE a0 as ds
 |[],_,h=>h
 |_::_,_,⟨d,ds,e,aa,ad⟩=>⟨d,ds,e,aa.mono hle,gE.mono hle ad⟩
theorem gE.append{μ:bz}:∀{as bs:List bZ} {ds es:List Deferred},gE μ as ds->gE μ bs es->gE μ (as++bs) (ds++es)
 |[],_,_,_,h,an=>by cases h;exact an
 |_::_,_,_,_,⟨d,ds,e,aa,ad⟩,an=>by subst e;exact⟨d,ds++_,rfl,aa,gE.append ad an⟩
def sb(μ:bz)(e:dU)(m:MapEntry):Prop:=bp μ e.key m.key/\bp μ e.val m.val/\e.born=m.born
def gh(μ:bz):List dU->List MapEntry->Prop
 |[],l=>l=[]
 |e::es,l=>∃m ms,l=m::ms/\sb μ e m/\gh μ es ms
theorem sb.mono{μ a0:bz}(hle:fi μ a0){e:dU}{m:MapEntry}(h:sb μ e m):sb a0 e m:=⟨h.1.mono hle,h.2.1.mono hle,h.2.2⟩
theorem gh.mono{μ a0:bz}(hle:fi μ a0):∀{es:List dU} {ms:List MapEntry},gh μ es ms->gh a0 es ms
 |[],_,h=>h
 |_::_,_,⟨m,ms,e,aa,ad⟩=>⟨m,ms,e,aa.mono hle,gh.mono hle ad⟩
def A5(μ:bz)(cs:List I)(c:Array Value)(base:Nat):Prop:=∀(j:Nat) (v:I),cs[j]? =some v->∃u,c[base+j]? =some u/\bp μ v u
def IX(k:gS)(cs:List I)(i:eX)(aI af gF gG:Nat):Prop:=match k with
 |.own=>i.base=0/\i.size=cs.length/\gF=aI/\gG=af
 |.aR=>cs.length<=i.size/\∀j,j<i.size->gF<=i.base+j->i.base+j<gG->aI<=j/\j<af
 |.ro=>True
 |.fz=>True
def pW(μ:bz)(o:dr)(i:eX)(w:World):Prop:=match o with
 |.cells cs el k aI af=>∃c gF gG,w.heap[i.bo]? =some (.cells c el (gF,gG))/\A5 μ cs c i.base/\i.base+i.size=c.size/\IX k cs i aI af gF gG
 |.map es clock=>∃ents,w.heap[i.bo]? =some (.map ⟨ents⟩ clock)/\gh μ es ents
 |.rY s pos=>i.base=0/\∃full,w.heap[i.bo]? =some (.stringIter full pos)/\full.data.toList.drop pos=s
 |.mapIter none since seen last=>i.base=0/\w.heap[i.bo]? =some (.mapIter none since ⟨seen⟩ last)
 |.mapIter (some m) since seen last=>i.base=0/\∃j,μ m=some j/\w.heap[i.bo]? =some (.mapIter (some j.bo) since ⟨seen⟩ last)
 |.loop st gf need m_ params as cy eU=>∃cn h6 fn,μ eU=some h6/\w.heap[i.bo]? =some (.loop {state:=st,pending:=gf,fn:=fn,tmps:=cn,params:=⟨params⟩,assign:=as,body:=cy,defers:=h6.bo})/\i_ need μ m_ cn/\hQ cn.size as=true/\hQ cn.size cy=true/\∀t∈params,t<cn.size
 |.defrd none=>w.heap[i.bo]? =some (.deferred none)
 |.defrd (some ds)=>∃l,w.heap[i.bo]? =some (.deferred (some l))/\gE μ ds l
 |.raw o=>i.base=0/\w.heap[i.bo]? =some o
theorem pW.mono{μ a0:bz}(hle:fi μ a0){o:dr}{i:eX}{w w':World}(hw:w'.heap[i.bo]? =w.heap[i.bo]?)(h:pW μ o i w):pW a0 o i w':=by
 cases o with
 |cells cs el k aI af=>
  obtain⟨c,gF,gG,aa,ad,av⟩:=h
  exact⟨c,gF,gG,hw.trans aa,λj v e=>let⟨u,hu,r⟩:=ad j v e;⟨u,hu,r.mono hle⟩,av⟩
 |map es clock=>obtain⟨ents,aa,ad⟩:=h;exact⟨ents,hw.trans aa,ad.mono hle⟩
 |rY s pos=>obtain⟨h0,full,aa,ad⟩:=h;exact⟨h0,full,hw.trans aa,ad⟩
 |mapIter m since seen last=>
  cases m with
  |none=>exact⟨h.1,hw.trans h.2⟩
  |some m=>obtain⟨h0,j,aa,ad⟩:=h;exact⟨h0,j,hle _ _ aa,hw.trans ad⟩
 |loop st gf fn m_ params as cy eU=>obtain⟨cn,h6,D9,aa,ad,av,aG⟩:=h;exact⟨cn,h6,D9,hle _ _ aa,hw.trans ad,av.mono hle,aG⟩
 |defrd calls=>
  cases calls with
  |none=>exact hw.trans h
  |some ds=>obtain⟨l,aa,ad⟩:=h;exact⟨l,hw.trans aa,ad.mono hle⟩
 |raw o=>exact⟨h.1,hw.trans h.2⟩
def dr.pX:dr->Bool
 |.cells _ _ .ro _ _=>true
 |.raw _=>true
 |_=>false
structure bB(μ:bz)(H:J)(w:World):Prop where
 rel:∀b o i,H.get b=some o->μ b=some i->pW μ o i w
 inj:∀b c i j,H.get b≠none->(∃o,H.get c=some o/\o.pX=false)->μ b=some i->μ c=some j->i.bo=j.bo->b=c
 lt:∀b i,μ b=some i->b<H.n/\i.bo<w.heap.size
 bound:∀b,H.n<=b->H.get b=none
structure cg(μ:bz)(H:J)(w:World)(a0:bz)(aX:J)(w':World):Prop where
 le:fi μ a0
 size:w.heap.size<=w'.heap.size
 n:H.n<=aX.n
 live:∀b,b<H.n->aX.get b≠none->H.get b≠none
 idle:∀b,b<H.n->μ b=none->aX.get b=H.get b
 old:∀r,r<w.heap.size->(∀b i,H.get b≠none->μ b=some i->i.bo≠r)->w'.heap[r]? =w.heap[r]?
 new:∀b i,μ b=none->a0 b=some i->H.n<=b/\(w.heap.size<=i.bo\/∃c o j,H.get c=some o/\o.pX=false/\μ c=some j/\j.bo=i.bo)
 ro:∀b o i,H.get b=some o->o.pX=true->μ b=some i->aX.get b=some o/\w'.heap[i.bo]? =w.heap[i.bo]?
 os:w'.os=w.os
 out:w'.output=w.output
 tape:w'.tape=w.tape
 drawn:w.drawn<=w'.drawn
theorem cg.refl(μ:bz)(H:J)(w:World):cg μ H w μ H w where
 le:=fi.refl μ
 size:=Nat.le_refl _
 n:=Nat.le_refl _
 live:=λ_ _ h=>h
 idle:=λ_ _ _=>rfl
 old:=λ_ _ _=>rfl
 new:=λb i h an=>by rw[h] at an;cases an
 ro:=λ_ _ _ h _ _=>⟨h,rfl⟩
 os:=rfl
 out:=rfl
 tape:=rfl
 drawn:=Nat.le_refl _
theorem cg.trans{μ h7 vL:bz}{H H1 aM:J}{w cW cN:World}(ak:bB μ H w)(ju:bB h7 H1 cW)(h:cg μ H w h7 H1 cW)(an:cg h7 H1 cW vL aM cN):cg μ H w vL aM cN where
 le:=h.le.trans an.le
 size:=Nat.le_trans h.size an.size
 n:=Nat.le_trans h.n an.n
 live:=λb ae aw=>h.live b ae (an.live b (Nat.lt_of_lt_of_le ae h.n) aw)
 idle:=λb ae hm=>by
  rw[<-h.idle b ae hm]
  refine an.idle b (Nat.lt_of_lt_of_le ae h.n) ?_
  cases aa:h7 b with
  |none=>rfl
  |some i=>exact absurd (h.new b i hm aa).1 (Nat.not_le.2 ae)
 old:=λr aj aN=>by
  rw[an.old r (Nat.lt_of_lt_of_le aj h.size),h.old r aj aN]
  intro b i aw hm he
  cases A6:μ b with
  |some j=>
   have:=h.le b j A6
   rw[hm] at this;cases this
   exact aN b i (h.live b (ak.lt b i A6).1 aw) A6 he
  |none=>
   obtain⟨_,af|⟨c,o,j,ag,_,aK,oU⟩⟩:=h.new b i A6 hm
   · omega
   · exact aN c j (by rw[ag];simp) aK (oU.trans he)
 new:=λb i ae ec=>by
  cases aa:h7 b with
  |some j=>
   have:=an.le b j aa
   rw[ec] at this;cases this
   exact h.new b i ae aa
  |none=>
   obtain⟨aN,af|⟨c,o,j,ag,gi,aK,oU⟩⟩:=an.new b i aa ec
   · exact⟨Nat.le_trans h.n aN,.inl (Nat.le_trans h.size af)⟩
   · refine⟨Nat.le_trans h.n aN,?_⟩
     cases h0:μ c with
     |some ja=>
      have:=h.le c ja h0
      rw[aK] at this;cases this
      have vM:H.get c≠none:=h.live c (ak.lt c j h0).1 (by rw[ag];simp)
      cases al:H.get c with
      |none=>exact absurd al vM
      |some D_=>
       cases A7:D_.pX with
       |false=>exact .inr ⟨c,D_,j,al,A7,h0,oU⟩
       |true=>
        have:=(h.ro c D_ j al A7 h0).1
        rw[ag] at this;cases this
        rw[gi] at A7;cases A7
     |none=>
      obtain⟨_,af|⟨c',o',ja,pY,Q1,gH,Q2⟩⟩:=h.new c j h0 aK
      · exact .inl (oU▸af)
      · exact .inr ⟨c',o',ja,pY,Q1,gH,Q2.trans oU⟩
 ro:=λb o i ae aj af=>by
  obtain⟨aa,ad⟩:=h.ro b o i ae aj af
  obtain⟨av,aG⟩:=an.ro b o i aa aj (h.le b i af)
  exact⟨av,aG.trans ad⟩
 os:=an.os.trans h.os
 out:=an.out.trans h.out
 tape:=an.tape.trans h.tape
 drawn:=Nat.le_trans h.drawn an.drawn
theorem bB.of_heap{μ:bz}{H:J}{w w':World}(h:bB μ H w)(he:w'.heap=w.heap):bB μ H w' where
 rel:=λb o i ae af=>(h.rel b o i ae af).mono (fi.refl μ) (by rw[he])
 inj:=h.inj
 lt:=λb i af=>by rw[he];exact h.lt b i af
 bound:=h.bound
theorem cg.of_heap{μ:bz}{H:J}{w w':World}(he:w'.heap=w.heap)(aY:w'.os=w.os)(aQ:w'.output=w.output)(bc:w'.tape=w.tape)(ao:w.drawn<=w'.drawn:=by first|exact Nat.le_refl _|exact Nat.le_succ _|assumption):cg μ H w μ H w' where
 le:=fi.refl μ
 size:=by rw[he];exact Nat.le_refl _
 n:=Nat.le_refl _
 live:=λ_ _ h=>h
 idle:=λ_ _ _=>rfl
 old:=λ_ _ _=>by rw[he]
 new:=λb i h an=>by rw[h] at an;cases an
 ro:=λ_ _ _ h _ _=>⟨h,by rw[he]⟩
 os:=aY
 out:=aQ
 tape:=bc
 drawn:=ao
def fE(μ:bz)(b:Nat)(i:eX):bz:=λc=>if c=b then some i else μ c
theorem gI(μ:bz)(b:Nat)(i:eX):fE μ b i b=some i:=by simp[fE]
theorem hD(μ:bz){b c:Nat}(i:eX)(h:c≠b):fE μ b i c=μ c:=by simp[fE,h]
theorem bB.fresh{μ:bz}{H:J}{w:World}(h:bB μ H w):μ H.n=none:=by
 cases e:μ H.n with
 |none=>rfl
 |some i=>exact absurd (h.lt _ _ e).1 (Nat.lt_irrefl _)
theorem bB.oV{μ:bz}{H:J}{w:World}(h:bB μ H w)(i:eX):fi μ (fE μ H.n i):=λb j e=>by
 rw[hD];exact e
 intro ae;subst ae;rw[h.fresh] at e;cases e
theorem bB.alloc{μ:bz}{H:J}{w:World}(h:bB μ H w)(o:dr)(x:Obj)(sz:Nat)
  (aj:pW (fE μ H.n ⟨w.heap.size,0,sz⟩) o ⟨w.heap.size,0,sz⟩ (w.alloc x)):
  bB (fE μ H.n ⟨w.heap.size,0,sz⟩) (H.push o) (w.alloc x)/\cg μ H w (fE μ H.n ⟨w.heap.size,0,sz⟩) (H.push o) (w.alloc x):=by
 have hle:=h.oV ⟨w.heap.size,0,sz⟩
 have hold:∀r,r<w.heap.size->(w.alloc x).heap[r]? =w.heap[r]? :=λr aj=>by
  simp only[World.alloc,Array.getElem?_push];rw[if_neg (by omega)]
 constructor
 · refine⟨λb ob i ae af=>?_,λb c i j ae ag af aK e=>?_,λb i af=>?_,λb ae=>?_⟩
   · rw[J.gD] at ae
     by_cases e:b=H.n
     · rw[if_pos e] at ae;subst e;cases ae
       rw[gI] at af;cases af
       exact aj
     · rw[if_neg e] at ae;rw[hD _ _ e] at af
       exact(h.rel b ob i ae af).mono hle (hold _ (h.lt b i af).2)
   · by_cases aA:b=H.n
     · by_cases ax:c=H.n
       · rw[aA,ax]
       · subst aA;rw[gI] at af;cases af
         rw[hD _ _ ax] at aK
         have:=(h.lt c j aK).2
         simp only at e;omega
     · by_cases ax:c=H.n
       · subst ax;rw[gI] at aK;cases aK
         rw[hD _ _ aA] at af
         have:=(h.lt b i af).2
         simp only at e;omega
       · rw[hD _ _ aA] at af;rw[hD _ _ ax] at aK
         rw[J.gD,if_neg aA] at ae
         rw[J.gD,if_neg ax] at ag
         exact h.inj b c i j ae ag af aK e
   · by_cases e:b=H.n
     · subst e;rw[gI] at af;cases af;simp
     · rw[hD _ _ e] at af
       have:=h.lt b i af
       simp only[J.sa,World.size_alloc];omega
   · simp only[J.sa] at ae
     rw[J.gD,if_neg (by omega)];exact h.bound b (by omega)
 · refine⟨hle,by simp,by simp,λb ae aw=>?_,λb ae _=>(by rw[J.gD,if_neg (by omega)]),λr aj _=>hold r aj,λb i ae ec=>?_,λb ob i ae _ af=>?_,rfl,rfl,rfl,Nat.le_refl _⟩
   · rw[J.gD,if_neg (by omega)] at aw;exact aw
   · by_cases e:b=H.n
     · subst e;rw[gI] at ec;cases ec;exact⟨Nat.le_refl _,.inl (Nat.le_refl _)⟩
     · rw[hD _ _ e,ae] at ec;cases ec
   · have:=h.lt b i af
     rw[J.gD,if_neg (by omega)]
     exact⟨ae,hold _ this.2⟩
theorem bB.update{μ:bz}{H:J}{w w':World}(h:bB μ H w){b:Nat}{o o':dr}{i:eX}(ae:H.get b=some o)(gi:o.pX=false)(af:μ b=some i)
  (hs:w'.heap.size=w.heap.size)(aY:∀r,r≠i.bo->w'.heap[r]? =w.heap[r]?)(yb:w'.os=w.os)(Ea:w'.output=w.output)(Eb:w'.tape=w.tape)(aj:pW μ o' i w')(hdr:w.drawn<=w'.drawn:=by first|exact Nat.le_refl _|assumption):
  bB μ (H.set b (some o')) w'/\cg μ H w μ (H.set b (some o')) w':=by
 have vM:H.get b≠none:=by rw[ae];simp
 have qU:∀c,(H.set b (some o')).get c≠none->H.get c≠none:=λc ag=>by
  rw[J.c7] at ag
  by_cases e:c=b
  · subst e;exact vM
  · rw[if_neg e] at ag;exact ag
 constructor
 · refine⟨λc fU j ag aK=>?_,λc d j k ag ao=>h.inj c d j k (qU c ag) (by
     obtain⟨x,ab,pZ⟩:=ao
     rw[J.c7] at ab
     by_cases e:d=b
     · subst e;exact⟨o,ae,gi⟩
     · rw[if_neg e] at ab;exact⟨x,ab,pZ⟩),λc j aK=>by rw[hs];exact h.lt c j aK,λc ag=>?_⟩
   · rw[J.c7] at ag
     by_cases e:c=b
     · subst e;rw[if_pos rfl] at ag;cases ag
       rw[af] at aK;cases aK;exact aj
     · rw[if_neg e] at ag
       refine(h.rel c fU j ag aK).mono (fi.refl μ) (aY _ λcI=>e (h.inj c b j i (by rw[ag];simp) ⟨o,ae,gi⟩ aK af cI))
   · rw[J.c7,if_neg]
     · exact h.bound c ag
     · intro e;subst e;have:=(h.lt c i af).1;simp at ag;omega
 · refine⟨fi.refl μ,by omega,by simp,λc _ ag=>qU c ag,λc _ hm=>(by rw[J.c7,if_neg];intro e;subst e;rw[af] at hm;cases hm),λr aj aN=>aY r λe=>aN b i vM af e.symm,λc j aa ad=>(by rw[aa] at ad;cases ad),λc fU j ag sc aK=>?_,yb,Ea,Eb,hdr⟩
   have cX:c≠b:=by intro e;subst e;rw[ae] at ag;cases ag;rw[gi] at sc;cases sc
   refine⟨by rw[J.c7,if_neg cX];exact ag,aY _ λe=>cX (h.inj c b j i (by rw[ag];simp) ⟨o,ae,gi⟩ aK af e)⟩
end bt
namespace bt
open Go
theorem add_plain(b o n:Nat):(⟨b,o,none⟩:Addr).add n=⟨b,o+n,none⟩:=by
 unfold Addr.add
 by_cases h:n=0
 · simp[h]
 · simp[h]
theorem qV{α:Type}:∀(n:Nat) (l:List α),nth n l=l[n]?
 |0,[]=>rfl
 |_+1,[]=>rfl
 |0,_::_=>rfl
 |n+1,_::l=>by simpa[nth] using qV n l
theorem ng{α:Type}:∀(n:Nat) (l:List α),jH n l=l.drop n
 |0,l=>by simp[jH]
 |_+1,[]=>by simp[jH]
 |n+1,_::l=>by simpa[jH] using ng n l
theorem tH:∀(n:Nat) (l r:List I),takeN n l=some r->n<=l.length/\r=l.take n
 |0,l,r,h=>by simp[takeN] at h;subst h;simp
 |_+1,[],r,h=>by simp[takeN] at h
 |n+1,a::l,r,h=>by
  simp only[takeN] at h
  cases e:takeN n l with
  |none=>simp[e] at h
  |some r'=>
   simp[e] at h;subst h
   obtain⟨aa,ad⟩:=tH n l r' e
   simp[ad];omega
theorem A8:∀(n:Nat) (vs cs r:List I),fS n vs cs=some r->
  r.length=cs.length/\(vs≠[]->n+vs.length<=cs.length)/\(∀v∈vs,v.cO=true)/\∀j,r[j]? =if n<=j/\j<n+vs.length then vs[j-n]? else cs[j]?
 |0,[],cs,r,h=>by
  simp[fS] at h;subst h
  refine⟨rfl,λh=>absurd rfl h,λv aD=>(by cases aD),λj=>by rw[if_neg (by simp)]⟩
 |0,_::_,[],r,h=>by simp[fS] at h
 |0,v::vs,c::cs,r,h=>by
  simp only[fS] at h
  cases ag:v.cO with
  |false=>simp[ag] at h
  |true=>
   simp only[ag] at h
   cases e:fS 0 vs cs with
   |none=>simp[e] at h
   |some r'=>
    simp[e] at h;subst h
    obtain⟨aa,ad,av,aG⟩:=A8 0 vs cs r' e
    refine⟨by simp[aa],λ_=>?_,λx ab=>?_,λj=>?_⟩
    · cases vs with
      |nil=>simp
      |cons a l=>have:=ad (by simp);simp at this⊢;omega
    · cases ab with
      |head=>exact ag
      |tail _ ab=>exact av x ab
    · cases j with
      |zero=>simp
      |succ j=>simpa using aG j
 |n+1,[],cs,r,h=>by
  simp[fS] at h;subst h
  refine⟨rfl,λh=>absurd rfl h,λv aD=>(by cases aD),λj=>by rw[if_neg (by simp)]⟩
 |n+1,_::_,[],r,h=>by simp[fS] at h
 |n+1,v::vs,c::cs,r,h=>by
  simp only[fS] at h
  cases e:fS n (v::vs) cs with
  |none=>simp[e] at h
  |some r'=>
   simp[e] at h;subst h
   obtain⟨aa,ad,av,aG⟩:=A8 n (v::vs) cs r' e
   refine⟨by simp[aa],λ_=>?_,av,λj=>?_⟩
   · have:=ad (by simp);simp at this⊢;omega
   · cases j with
     |zero=>simp
     |succ j=>
      have:=aG j
      simp only[List.getElem?_cons_succ,this,List.length_cons]
      have aA:(n+1<=j+1/\j+1<n+1+(vs.length+1))<->(n<=j/\j<n+(vs.length+1)):=by omega
      have ax:j+1-(n+1)=j-n:=by omega
      simp only[aA,ax]
theorem vN{w:World}{bo el gF gG:Nat}{c:Array Value}(h:w.heap[bo]? =some (.cells c el (gF,gG)))(k:Nat):w.cell? ⟨bo,k,none⟩=c[k]? :=by
 simp[World.cell?,h]
theorem IY{μ:bz}{H:J}{w:World}(ak:bB μ H w){b off:Nat}{i:eX}(af:μ b=some i){cs:List I}{el aI eY:Nat}{k:gS}(ae:H.get b=some (.cells cs el k aI eY))
  {v:I}(aD:cs[off]? =some v):∃u,w.cell? ⟨i.bo,i.base+off,none⟩=some u/\bp μ v u:=by
 obtain⟨c,gF,gG,aa,ad,_⟩:=ak.rel b _ i ae af
 obtain⟨u,hu,r⟩:=ad off v aD
 exact⟨u,by rw[vN aa,hu],r⟩
theorem IZ{P:Program}{w:World}{a:Addr}{u:Value}(h:w.cell? a=some u):(_root_.Go.load a).run P w=.ok u w:=by
 rw[run_load];simp[h]
theorem Q3{P:Program}{μ:bz}{H:J}{w:World}(ak:bB μ H w){b:Nat}{i:eX}(af:μ b=some i){cs:List I}{el aI eY:Nat}{k:gS}(ae:H.get b=some (.cells cs el k aI eY))(off:Nat):
  ∀(n s:Nat) (acc:Array Value) (sd:List I),takeN n (jH (off+s) cs)=some sd->
   ∃us:List Value,(loadCellsFrom ⟨i.bo,i.base+off,none⟩ s n acc).run P w=.ok (acc++us.toArray) w/\cm μ sd us:=by
 intro n
 induction n with
 |zero=>
  intro s acc sd h
  simp[takeN] at h;subst h
  exact⟨[],by simp[loadCellsFrom],rfl⟩
 |succ n bb=>
  intro s acc sd h
  rw[ng] at h
  cases ao:cs.drop (off+s) with
  |nil=>rw[ao] at h;simp[takeN] at h
  |cons a l=>
   rw[ao] at h
   simp only[takeN] at h
   cases e:takeN n l with
   |none=>simp[e] at h
   |some r=>
    simp[e] at h;subst h
    have aL:cs[off+s]? =some a:=by
     have:=congrArg (·[0]?) ao
     simpa[List.getElem?_drop] using this
    have aw:l=jH (off+(s+1)) cs:=by
     rw[ng]
     have:=congrArg (List.drop 1) ao
     simp only[List.drop_drop,List.drop_succ_cons,List.drop_zero] at this
     rw[<-this];congr 1
    obtain⟨u,hu,aj⟩:=IY ak af ae aL
    obtain⟨us,aa,ad⟩:=bb (s+1) (acc.push u) r (by rw[<-aw];exact e)
    refine⟨u::us,?_,⟨u,us,rfl,aj,ad⟩⟩
    have lX:w.cell? ((⟨i.bo,i.base+off,none⟩:Addr).add s)=some u:=by rw[add_plain,Nat.add_assoc];exact hu
    simp only[loadCellsFrom,Sem.run_bind,IZ lX,Result.andThen_ok,aa]
    congr 1
    apply Array.ext'
    simp
theorem se{P:Program}{μ:bz}{H:J}{w:World}(ak:bB μ H w){b off n:Nat}{i:eX}(af:μ b=some i){sd:List I}(h:loadCells H b off n=some sd):
  ∃us:List Value,(_root_.Go.loadCells ⟨i.bo,i.base+off,none⟩ n).run P w=.ok ⟨us⟩ w/\cm μ sd us:=by
 unfold loadCells at h
 split at h
 · rename_i cs el k aI eY ae
   obtain⟨us,aa,ad⟩:=Q3 (P:=P) ak af ae off n 0 #[] sd h
   exact⟨us,by simpa[_root_.Go.loadCells] using aa,ad⟩
 · cases h
theorem Ec{P:Program}{μ:bz}{H:J}{w:World}(ak:bB μ H w){b off:Nat}{i:eX}(af:μ b=some i){v:I}(h:ar H b off=some v):
  ∃u,(_root_.Go.load ⟨i.bo,i.base+off,none⟩).run P w=.ok u w/\bp μ v u:=by
 unfold ar at h
 split at h
 · rename_i cs el k aI eY ae
   rw[qV] at h
   obtain⟨u,hu,aj⟩:=IY ak af ae h
   exact⟨u,IZ hu,aj⟩
 · cases h
theorem I0(P:Program)(bo k:Nat):∀(vs:List Value) (w:World) (i:Nat) (c:Array Value) (el gF gG:Nat),w.heap[bo]? =some (.cells c el (gF,gG))->
  (∀v∈vs,v.oneCell'=true)->k+i+vs.length<=c.size->(∀j,k+i<=j->j<k+i+vs.length->¬(gF<=j/\j<gG))->
  ∃w' c',(_root_.Go.storeCells ⟨bo,k,none⟩ vs i).run P w=.ok () w'/\w'.heap[bo]? =some (.cells c' el (gF,gG))/\(∀r,r≠bo->w'.heap[r]? =w.heap[r]?)/\w'.heap.size=w.heap.size/\
   w'.os=w.os/\w'.output=w.output/\(w'.tape=w.tape/\w'.drawn=w.drawn)/\c'.size=c.size/\∀j,c'[j]? =if k+i<=j/\j<k+i+vs.length then vs[j-(k+i)]? else c[j]? :=by
 intro vs
 induction vs with
 |nil=>
  intro w i c el gF gG ae _ _ _
  exact⟨w,c,by simp[_root_.Go.storeCells],ae,λ_ _=>rfl,rfl,rfl,rfl,⟨rfl,rfl⟩,rfl,λj=>by rw[if_neg (by simp)]⟩
 |cons v vs bb=>
  intro w i c el gF gG ae ag hs hf
  simp only[List.length_cons] at hs hf
  have ch:k+i<c.size:=by omega
  have kS:w.cell? ⟨bo,k+i,none⟩=some c[k+i]:=by rw[vN ae];exact Array.getElem?_eq_getElem ch
  have Q4:w.frozen? ⟨bo,k+i,none⟩=false:=by
   have:=hf (k+i) (by omega) (by omega)
   simp only[World.frozen?,ae]
   cases aa:decide (gF<=k+i) with
   |false=>rfl
   |true=>
    cases ad:decide (k+i<gG) with
    |false=>rfl
    |true=>exact absurd ⟨of_decide_eq_true aa,of_decide_eq_true ad⟩ this
  have j1:(w.setCell ⟨bo,k+i,none⟩ v).heap[bo]? =some (.cells (c.setIfInBounds (k+i) v) el (gF,gG)):=by
   simp[World.setCell,Array.getElem?_modify,ae]
  obtain⟨w',c',aa,ad,av,aG,bI,cq,di,hR,g5⟩:=bb (w.setCell ⟨bo,k+i,none⟩ v) (i+1) (c.setIfInBounds (k+i) v) el gF gG j1 (λx ab=>ag x (.tail _ ab)) (by simp;omega)
   (λj afo p0=>hf j (by omega) (by omega))
  refine⟨w',c',?_,ad,λr aj=>?_,?_,bI,cq,di,by simpa using hR,λj=>?_⟩
  · simp only[_root_.Go.storeCells,Sem.run_bind,add_plain,run_store P w ⟨bo,k+i,none⟩ v .plain (ag v (.head _)),kS,Q4,Bool.false_eq_true,if_false,Result.andThen_ok,aa]
  · rw[av r aj];simp only[World.setCell,Array.getElem?_modify]
    rw[if_neg (λe=>aj e.symm)]
  · rw[aG];simp[World.setCell]
  · rw[g5 j]
    by_cases e:j=k+i
    · subst e
      rw[if_neg (by omega),if_pos (by simp),Array.getElem?_setIfInBounds]
      simp[ch]
    · by_cases ax:k+(i+1)<=j/\j<k+(i+1)+vs.length
      · rw[if_pos ax,if_pos (by simp only[List.length_cons];omega)]
        have:j-(k+i)=(j-(k+(i+1)))+1:=by omega
        rw[this];simp
      · rw[if_neg ax,if_neg (by simp only[List.length_cons];omega),Array.getElem?_setIfInBounds]
        rw[if_neg (λcI=>e cI.symm)]
theorem cm.ya{μ:bz}:∀{as:List I} {vs:List Value},cm μ as vs->(∀a∈as,a.cO=true)->∀v∈vs,v.oneCell'=true
 |[],_,h,_=>by cases h;intro v aD;cases aD
 |a::as,_,⟨v,vs,e,aa,ad⟩,ag=>by
  subst e
  intro x ab
  cases ab with
  |head=>exact aa.ya (ag a (.head _))
  |tail _ ab=>exact cm.ya ad (λa aL=>ag a (.tail _ aL)) x ab
theorem Q5{k:gS}{aI af off n:Nat}(hw:lj k aI af off n=true){cs:List I}{i:eX}{gF gG:Nat}(aq:IX k cs i aI af gF gG)(ft:n=0\/off+n<=i.size):
  ∀j,i.base+off<=j->j<i.base+off+n->¬(gF<=j/\j<gG):=by
 intro j aa ad ⟨av,aG⟩
 cases k with
 |ro=>simp[lj] at hw
 |fz=>simp[lj] at hw
 |own=>
  obtain⟨ae,hs,rfl,rfl⟩:=aq
  simp only[lj,Bool.or_eq_true,Nat.ble_eq] at hw
  omega
 |aR=>
  obtain⟨hs,hf⟩:=aq
  simp only[lj,Bool.or_eq_true,Nat.ble_eq] at hw
  have:=hf (j-i.base) (by omega) (by omega) (by omega)
  omega
theorem yc{P:Program}{μ:bz}{H:J}{w:World}(ak:bB μ H w){b off:Nat}{i:eX}(af:μ b=some i){vs:List I}{us:List Value}(aD:cm μ vs us){aX:J}
  (h:storeCells H b off vs=some aX):
  ∃w',(_root_.Go.storeCells ⟨i.bo,i.base+off,none⟩ us).run P w=.ok () w'/\bB μ aX w'/\cg μ H w μ aX w':=by
 unfold storeCells at h
 split at h
 · rename_i cs el k aI eY ae
   split at h
   · rename_i hw
     split at h
     · rename_i bT aQ
       cases h
       obtain⟨ey,e9,jK,lY⟩:=A8 _ _ _ _ aQ
       obtain⟨c,gF,gG,aa,ad,av,aG⟩:=ak.rel b _ i ae af
       have hlen:=aD.length
       have bA:vs≠[]->off+vs.length<=i.size/\i.base+off+vs.length<=c.size:=λcX=>by
        have:=e9 cX
        have p1:=ad (cs.length-1) (cs[cs.length-1]'(by cases vs with|nil=>exact absurd rfl cX|cons a l=>simp at this;omega)) (List.getElem?_eq_getElem _)
        obtain⟨u,hu,_⟩:=p1
        have ch:i.base+(cs.length-1)<c.size:=by
         rcases Nat.lt_or_ge (i.base+(cs.length-1)) c.size with h|h
         · exact h
         · rw[Array.getElem?_eq_none h] at hu;cases hu
        have yd:0<vs.length:=by cases vs with|nil=>exact absurd rfl cX|cons a l=>simp
        cases k with
        |ro=>simp[lj] at hw
        |fz=>simp[lj] at hw
        |own=>obtain⟨b6,cU,_⟩:=aG;omega
        |aR=>obtain⟨b6,_⟩:=aG;omega
       by_cases cX:vs=[]
       · subst cX
         have:us=[]:=by cases us with|nil=>rfl|cons a l=>simp at hlen
         subst this
         have fN:bT=cs:=by
          apply List.ext_getElem?
          intro j;rw[lY j,if_neg (by simp)]
         subst fN
         obtain⟨r1,r2⟩:=ak.update (w':=w) ae (by cases k<;>first|rfl|simp[lj] at hw) af rfl (λ_ _=>rfl) rfl rfl rfl (ak.rel b _ i ae af)
         exact⟨w,by simp[_root_.Go.storeCells],r1,r2⟩
       · obtain⟨s1,s2⟩:=bA cX
         obtain⟨w',c',aA,ax,bD,ed,fF,gu,gj,g6,gv⟩:=I0 P i.bo (i.base+off) us w 0 c el gF gG aa (aD.ya jK) (by omega)
          (by have:=Q5 hw aG (.inr s1);rw[hlen] at this;simpa using this)
         obtain⟨r1,r2⟩:=ak.update (w':=w') (o':=.cells bT el k aI eY) ae (by cases k<;>first|rfl|simp[lj] at hw) af ed bD fF gu gj.1 (hdr:=Nat.le_of_eq gj.2.symm)
          ⟨c',gF,gG,ax,λj v aK=>by
           rw[lY j] at aK
           rw[gv]
           by_cases aj:off<=j/\j<off+vs.length
           · rw[if_pos aj] at aK
             rw[if_pos (by omega)]
             have:i.base+j-(i.base+off+0)=j-off:=by omega
             rw[this];exact aD.get aK
           · rw[if_neg aj] at aK
             rw[if_neg (by omega)]
             exact ad j v aK,by omega,by
           cases k with
           |ro=>trivial
           |fz=>trivial
           |own=>obtain⟨b6,cU,c8⟩:=aG;exact⟨b6,by omega,c8⟩
           |aR=>obtain⟨b6,cU⟩:=aG;exact⟨by omega,cU⟩⟩
         exact⟨w',aA,r1,r2⟩
     · cases h
   · cases h
 · cases h
theorem World.heap_alloc_new(w:World)(x:Obj):(w.alloc x).heap[w.heap.size]? =some x:=by unfold World.alloc;simp
theorem A9{P:Program}{μ:bz}{H:J}{w:World}(ak:bB μ H w){el b:Nat}{cs:List I}{us:List Value}{aX:J}(aD:cm μ cs us)(h:newRow H el cs=some (b,aX)):
  (_root_.Go.newRow el ⟨us⟩).run P w=.ok ⟨w.heap.size,0,none⟩ (w.alloc (.cells ⟨us⟩ el))/\b=H.n/\fE μ H.n ⟨w.heap.size,0,us.length⟩ b=some ⟨w.heap.size,0,us.length⟩/\
   bB (fE μ H.n ⟨w.heap.size,0,us.length⟩) aX (w.alloc (.cells ⟨us⟩ el))/\cg μ H w (fE μ H.n ⟨w.heap.size,0,us.length⟩) aX (w.alloc (.cells ⟨us⟩ el)):=by
 unfold newRow at h
 split at h
 · cases h
   have hle:=ak.oV ⟨w.heap.size,0,us.length⟩
   obtain⟨r1,r2⟩:=ak.alloc (.cells cs el .own 0 0) (.cells ⟨us⟩ el) us.length
    ⟨⟨us⟩,0,0,by exact World.heap_alloc_new _ _,λj v aK=>by
      obtain⟨u,hu,aj⟩:=aD.get aK
      exact⟨u,by simpa using hu,aj.mono hle⟩,by simp,rfl,aD.length.symm,rfl,rfl⟩
   exact⟨by simp[_root_.Go.newRow],rfl,gI _ _ _,r1,r2⟩
 · cases h
section types
variable {P:Program} {w:World} {t:TypeId}
theorem run_typeInfo{i:TypeInfo}(h:P.info? t=some i):(typeInfo t).run P w=.ok i w:=by simp[typeInfo,h]
theorem b4{d:TypeDesc}(h:P.underlying t=some d):(underlying t).run P w=.ok d w:=by simp[underlying,h]
theorem run_sizeOf{n:Nat}(h:dx P t=some n):(_root_.Go.sizeOf t).run P w=Result.ok n w:=by
 unfold dx at h
 split at h
 · rename_i i af;cases h;simp[_root_.Go.sizeOf,run_typeInfo af]
 · cases h
theorem vO{b:Bool}(h:qM P t=some b):(isAgg t).run P w=.ok b w:=by
 unfold qM at h
 cases hu:P.underlying t with
 |none=>rw[hu] at h;cases h
 |some d=>
  rw[hu] at h
  simp only[isAgg,Sem.run_bind,b4 hu,Result.andThen_ok]
  cases d<;>cases h<;>rfl
theorem my{z:I}(h:ev P t=some z):∃v,(zeroValue t).run P w=.ok v w/\z=oP v/\z≠ .bad:=by
 unfold ev at h
 split at h
 · rename_i i af
   split at h
   · rename_i v aD
     split at h
     · cases h
     · rename_i a cX
       cases h
       exact⟨v,by simp[zeroValue,run_typeInfo af,aD],rfl,cX⟩
   · cases h
 · cases h
end types
end bt
namespace bt
open Go
def e5(P:Program)(μ:bz)(H:J)(w:World)(s:Sem Value)(v:I)(aX:J):Prop:=
 ∃a0 w' v',s.run P w=.ok v' w'/\bp a0 v v'/\bB a0 aX w'/\cg μ H w a0 aX w'
theorem e5.same{P:Program}{μ:bz}{H:J}{w:World}{s:Sem Value}{v:I}{v':Value}(ak:bB μ H w)(hs:s.run P w=.ok v' w)(aD:bp μ v v'):e5 P μ H w s v H:=
 ⟨μ,w,v',hs,aD,ak,cg.refl _ _ _⟩
section
variable {P:Program} {μ:bz} {H:J} {w:World}
theorem Q6(ak:bB μ H w){e:TypeId}{z:I}(aW:ev P e=some z){b:Nat}{aX:J}(aj:newRow H e z.cells=some (b,aX)):
  e5 P μ H w (Instr.alloc e true (.tuple #[])) (.ptr b 0) aX:=by
 obtain⟨v,aD,rfl,ae⟩:=my (w:=w) aW
 have ag:=(kD μ v).cells ae
 obtain⟨aa,rfl,ad,av,aG⟩:=A9 (P:=P) ak ag aj
 refine⟨_,_,.pointer (some ⟨w.heap.size,0,none⟩),?_,⟨_,ad,by simp⟩,av,aG⟩
 simp[Instr.alloc,aD,newVar,aa]
theorem Q7(ak:bB μ H w){e:TypeId}{x:I}{v:Value}(aD:bp μ x v){b:Nat}{aX:J}(aj:newRow H e x.cells=some (b,aX)):
  e5 P μ H w (Instr.box e v) (.ptr b 0) aX:=by
 have ae:x≠ .bad:=by intro h;rw[h] at aj;simp[newRow,I.cells,I.cO] at aj
 obtain⟨aa,rfl,ad,av,aG⟩:=A9 (P:=P) ak (aD.cells ae) aj
 refine⟨_,_,.pointer (some ⟨w.heap.size,0,none⟩),?_,⟨_,ad,by simp⟩,av,aG⟩
 simp[Instr.box,newVar,aa]
theorem Q8(ak:bB μ H w){t:TypeId}{b off:Nat}{v:Value}(aD:bp μ (.ptr b off) v):
  (∀n cs,qM P t=some true->dx P t=some n->loadCells H b off n=some cs->e5 P μ H w (Instr.loadAt t v) (.agg cs) H)/\
  (∀x,qM P t=some false->ar H b off=some x->e5 P μ H w (Instr.loadAt t v) x H):=by
 obtain⟨i,af,rfl⟩:=aD
 constructor
 · intro n cs aL aN aw
   obtain⟨us,aa,ad⟩:=se (P:=P) ak af aw
   exact .same ak (v':=.agg ⟨us⟩) (by simp[Instr.loadAt,Instr.sureAddr,loadVar,vO aL,run_sizeOf aN,aa]) ⟨us,rfl,ad⟩
 · intro x aL aw
   obtain⟨u,aa,ad⟩:=Ec (P:=P) ak af aw
   exact .same ak (v':=u) (by simp only[Instr.loadAt,Instr.sureAddr,loadVar,Sem.run_bind,Sem.run_pure,Result.andThen_ok,vO aL,Bool.false_eq_true,if_false,aa]) ad
theorem Q9(ak:bB μ H w){t:TypeId}{b off n:Nat}{v u:Value}{x:I}(aD:bp μ (.ptr b off) v)(ab:bp μ x u)(ae:x≠ .bad)(aN:dx P t=some n)(aw:x.cells.length=n)
  {aX:J}(hs:storeCells H b off x.cells=some aX):
  ∃w',(Instr.storeAt t v u).run P w=.ok () w'/\bB μ aX w'/\cg μ H w μ aX w':=by
 obtain⟨i,af,rfl⟩:=aD
 have ag:=ab.cells ae
 obtain⟨w',aa,ad,av⟩:=yc (P:=P) ak af ag hs
 refine⟨w',?_,ad,av⟩
 have bA:u.cells.size=n:=by have:=ag.length;rw[aw] at this;simpa using this.symm
 simp[Instr.storeAt,Instr.sureAddr,storeVar,run_sizeOf aN,bA,aa]
theorem I1(off:Nat):∀(l:List Value) (s:Nat) (cs:Array Value),off+s+l.length<=cs.size->
  ((l.zipIdx s).foldl (λcs (x:Value×Nat)=>cs.setIfInBounds (off+x.2) x.1) cs).size=cs.size/\
  ∀j:Nat,((l.zipIdx s).foldl (λcs (x:Value×Nat)=>cs.setIfInBounds (off+x.2) x.1) cs)[j]? =if off+s<=j/\j<off+s+l.length then l[j-(off+s)]? else cs[j]?
 |[],s,cs,_=>by
  refine⟨rfl,λj=>by rw[if_neg (by simp)];rfl⟩
 |a::l,s,cs,h=>by
  simp only[List.length_cons] at h
  obtain⟨aa,ad⟩:=I1 off l (s+1) (cs.setIfInBounds (off+s) a) (by simp;omega)
  simp only[List.zipIdx_cons,List.foldl_cons]
  refine⟨by rw[aa];simp,λj=>?_⟩
  rw[ad j]
  by_cases e:j=off+s
  · subst e
    rw[if_neg (by omega),if_pos (by simp),Array.getElem?_setIfInBounds]
    simp;omega
  · by_cases ax:off+(s+1)<=j/\j<off+(s+1)+l.length
    · rw[if_pos ax,if_pos (by simp only[List.length_cons];omega)]
      have:j-(off+s)=(j-(off+(s+1)))+1:=by omega
      rw[this];simp
    · rw[if_neg ax,if_neg (by simp only[List.length_cons];omega),Array.getElem?_setIfInBounds,if_neg (λcI=>e cI.symm)]
theorem ye(place:Nat->Option (Nat×Nat)){tF:Type}(g:tF->I)(cD:tF->Value)(al:∀x,bp μ (g x) (cD x)):∀(ps:List (Nat×tF)) (cs r:List I) (c:Array Value),cm μ cs c.toList->
  kh place cs (ps.map λp=>(p.1,g p.2))=some r->∃c':List Value,Instr.fill place c (ps.map λp=>(p.1,cD p.2))=some ⟨c'⟩/\cm μ r c'
 |[],cs,r,c,ag,h=>by
  simp[kh] at h;subst h
  exact⟨c.toList,by simp[Instr.fill],ag⟩
 |(k,x)::ps,cs,r,c,ag,h=>by
  simp only[List.map_cons] at h⊢
  have aD:=al x
  generalize g x=v at h aD
  generalize cD x=u at aD⊢
  have ae:v≠ .bad:=by intro e;subst e;simp[kh] at h
  have qW:∃off size bT,place k=some (off,size)/\v.cells.length=size/\off+size<=cs.length/\fS off v.cells cs=some bT/\kh place bT (ps.map λp=>(p.1,g p.2))=some r:=by
   cases v<;>first
    |exact absurd rfl ae
    |(simp only[kh] at h
      split at h
      · cases h
      · rename_i off size hj
        split at h
        · rename_i bA
          simp only[Bool.and_eq_true,Nat.ble_eq] at bA
          split at h
          · rename_i bT yf
            exact⟨off,size,bT,hj,Nat.eq_of_beq_eq_true bA.1,bA.2,yf,h⟩
          · cases h
        · cases h)
  obtain⟨off,size,bT,hj,bA,hbound,yf,n7⟩:=qW
  obtain⟨ey,e9,jK,lY⟩:=A8 _ _ _ _ yf
  have oW:=aD.cells ae
  have aw:=oW.length
  have sf:=ag.length
  have av:c.toList.length=c.size:=by simp
  have Q_:u.cells.size=size:=by rw[<-bA,aw];simp
  obtain⟨f1,f2⟩:=I1 off u.cells.toList 0 c (by simp;omega)
  have Ra:(u.cells.zipIdx.foldl (λcs (x:Value×Nat)=>cs.setIfInBounds (off+x.2) x.1) c)=((u.cells.toList.zipIdx 0).foldl (λcs (x:Value×Nat)=>cs.setIfInBounds (off+x.2) x.1) c):=by
   rw[<-Array.foldl_toList,Array.toList_zipIdx]
  have key:cm μ bT (u.cells.zipIdx.foldl (λcs (x:Value×Nat)=>cs.setIfInBounds (off+x.2) x.1) c).toList:=by
   rw[Ra]
   refine cm.x_ (by rw[ey,sf];simpa using f1.symm) λj a aL=>?_
   rw[lY j] at aL
   rw[Array.getElem?_toList,f2 j]
   have I2:u.cells.toList.length=v.cells.length:=aw.symm
   by_cases aj:off<=j/\j<off+v.cells.length
   · rw[if_pos aj] at aL;rw[if_pos (by omega)]
     exact oW.get (by simpa using aL)
   · rw[if_neg aj] at aL;rw[if_neg (by omega)]
     simpa using ag.get aL
  obtain⟨c',ai,au⟩:=ye place g cD al ps bT r _ key n7
  refine⟨c',?_,au⟩
  simp only[Instr.fill,hj,Q_]
  rw[if_neg (by simp;omega)]
  exact ai
theorem Rb{t:TypeId}{n:Nat}(h:dx P t=some n):P.cellsOf t=n:=by
 unfold dx at h
 split at h
 · rename_i i af;cases h;simp[Program.cellsOf,af]
 · cases h
theorem run_places(w:World):∀l:List Field,(l.all λf=>(dx P f.type).isSome)=true->
  (l.mapM (λf=>do pure (f.offset,<-_root_.Go.sizeOf f.type):Field->Sem (Nat×Nat))).run P w=.ok (l.map λf=>(f.offset,P.cellsOf f.type)) w
 |[],_=>rfl
 |f::l,h=>by
  simp only[List.all_cons,Bool.and_eq_true] at h
  obtain⟨n,aN⟩:=Option.isSome_iff_exists.1 h.1
  simp only[List.mapM_cons,Sem.run_bind,run_sizeOf aN,Result.andThen_ok,Sem.run_pure,run_places w l h.2,List.map_cons,Rb aN]
theorem Rc(ak:bB μ H w)(g:Operand->I)(cD:Operand->Value)(al:∀x,bp μ (g x) (cD x)){t:TypeId}{z:I}(aW:ev P t=some z){b0:Array Field}(hu:P.underlying t=some (.struct b0))
  (eB:(b0.toList.all λf=>(dx P f.type).isSome)=true)(parts:Array (Nat×Operand)){cs:List I}
  (hf:kh (λi=>(b0[i]?).map λf=>(f.offset,P.cellsOf f.type)) z.cells (parts.toList.map λp=>(p.1,g p.2))=some cs):
  e5 P μ H w (Instr.build t (parts.map λ(i,x)=>(i,cD x))) (.agg cs) H:=by
 obtain⟨v,aD,rfl,ae⟩:=my (w:=w) aW
 have ag:=(kD μ v).cells ae
 obtain⟨c',aa,ad⟩:=ye _ g cD al parts.toList _ cs v.cells ag hf
 have aQ:=run_places (P:=P) w b0.toList eB
 refine .same ak (v':=.agg ⟨c'⟩) ?_ ⟨c',rfl,ad⟩
 have hm:(b0.mapM (λf=>do pure (f.offset,<-_root_.Go.sizeOf f.type):Field->Sem (Nat×Nat))).run P w=.ok (b0.map λf=>(f.offset,P.cellsOf f.type)) w:=by
  obtain⟨l⟩:=b0
  have e:(l.toArray.mapM (λf=>do pure (f.offset,<-_root_.Go.sizeOf f.type):Field->Sem (Nat×Nat)))=List.toArray<$>l.mapM (λf=>do pure (f.offset,<-_root_.Go.sizeOf f.type)):=List.mapM_toArray
  refine(congrArg (λs:Sem (Array (Nat×Nat))=>s.run P w) e).trans ?_
  simp only[Sem.run_map]
  rw[show(Sem.run P (List.mapM (λf=>do pure (f.offset,<-_root_.Go.sizeOf f.type):Field->Sem (Nat×Nat)) l) w)=_ from aQ];simp
 have Rd:(λi:Nat=>(b0.map λf=>(f.offset,P.cellsOf f.type))[i]?)=λi=>(b0[i]?).map λf=>(f.offset,P.cellsOf f.type):=by
  funext i;simp
 simp only[Instr.build,Sem.run_bind,aD,Result.andThen_ok,b4 hu,hm,Rd,Array.toList_map,aa]
 rfl
theorem Re(ak:bB μ H w)(g:Operand->I)(cD:Operand->Value)(al:∀x,bp μ (g x) (cD x)){t e:TypeId}{n sz:Nat}{z:I}(aW:ev P t=some z)(hu:P.underlying t=some (.array n e))
  (hs:dx P e=some sz)(parts:Array (Nat×Operand)){cs:List I}
  (hf:kh (λi=>some (i*sz,sz)) z.cells (parts.toList.map λp=>(p.1,g p.2))=some cs):
  e5 P μ H w (Instr.build t (parts.map λ(i,x)=>(i,cD x))) (.agg cs) H:=by
 obtain⟨v,aD,rfl,ae⟩:=my (w:=w) aW
 have ag:=(kD μ v).cells ae
 obtain⟨c',aa,ad⟩:=ye _ g cD al parts.toList _ cs v.cells ag hf
 refine .same ak (v':=.agg ⟨c'⟩) ?_ ⟨c',rfl,ad⟩
 simp only[Instr.build,Sem.run_bind,aD,Result.andThen_ok,b4 hu,run_sizeOf hs,Array.toList_map,aa]
 rfl
theorem I3{α:Type}(n:Nat)(l:List α):(fs n l).length=n*l.length:=by
 induction n with
 |zero=>simp[fs]
 |succ n bb=>simp[fs,bb,Nat.succ_mul];omega
theorem I4{α:Type}:∀(n:Nat) (l:List α) (j:Nat),j<n*l.length->(fs n l)[j]? =l[j %l.length]?
 |0,l,j,h=>by simp at h
 |n+1,l,j,h=>by
  simp only[fs]
  by_cases e:j<l.length
  · rw[List.getElem?_append_left e,Nat.mod_eq_of_lt e]
  · rw[List.getElem?_append_right (by omega),I4 n l (j-l.length) (by rw[Nat.succ_mul] at h;omega)]
    have:(j-l.length) %l.length=j %l.length:=by
     have ak:j=(j-l.length)+l.length:=by omega
     conv=>rhs;rw[ak,Nat.add_mod_right]
    rw[this]
theorem yg{n8:List I}{zero:Array Value}(aW:cm μ n8 zero.toList){sz:Nat}(hs:n8.length=sz)(n:Nat):
  cm μ (fs n n8) ((Array.range (n*sz)).map (λi=>zero[i %zero.size]!)).toList:=by
 have aw:=aW.length
 have av:zero.toList.length=zero.size:=by simp
 refine cm.x_ (by rw[I3,hs];simp) λj a aL=>?_
 have aK:j<n*n8.length:=by
  rcases Nat.lt_or_ge j (n*n8.length) with h|h
  · exact h
  · rw[List.getElem?_eq_none (by rw[I3];exact h)] at aL;cases aL
 rw[I4 n n8 j aK] at aL
 obtain⟨u,hu,aj⟩:=aW.get aL
 refine⟨u,?_,aj⟩
 have yd:0<n8.length:=by
  rcases Nat.eq_zero_or_pos n8.length with h|h
  · rw[h] at aK;simp at aK
  · exact h
 have ch:j %zero.size<zero.size:=Nat.mod_lt _ (by omega)
 have aA:n8.length=zero.size:=by omega
 rw[aA] at hu
 rw[Array.getElem?_toList] at hu
 rw[Array.getElem?_toList,Array.getElem?_map,Array.getElem?_range]
 rw[if_pos (by rw[<-hs];exact aK)]
 simp only[Option.map_some]
 rw[Array.getElem?_eq_getElem ch] at hu
 simp only[Option.some.injEq] at hu
 rw[getElem!_pos zero _ ch,hu]
theorem Rf(ak:bB μ H w)(g:Operand->I)(cD:Operand->Value)(al:∀x,bp μ (g x) (cD x)){t e:TypeId}{len sz:Nat}{z:I}(hu:P.underlying t=some (.slice e))(hs:dx P e=some sz)
  (aW:ev P e=some z)(hle:len*sz<=16777216)(n9:z.cells.length=sz)(parts:Array (Nat×Operand)){cs:List I}
  (hf:kh (λi=>some (i*sz,sz)) (if len*sz=0 then[] else fs len z.cells) (parts.toList.map λp=>(p.1,g p.2))=some cs){b:Nat}{aX:J}(aj:newRow H e cs=some (b,aX)):
  e5 P μ H w (Instr.buildSlice t len (parts.map λ(i,x)=>(i,cD x))) (.slice b 0 len (.exact len)) aX:=by
 obtain⟨v,aD,rfl,ae⟩:=my (w:=w) aW
 have ag:=(kD μ v).cells ae
 have yh:¬(len*sz>2^24):=by omega
 have key:∀zero:Array Value,cm μ (if len*sz=0 then[] else fs len (oP v).cells) ((Array.range (len*sz)).map (λi=>zero[i %zero.size]!)).toList->
   (∀r:Result Value,r=(match Instr.fill (λi=>some (i*sz,sz)) ((Array.range (len*sz)).map (λi=>zero[i %zero.size]!)) (parts.toList.map λp=>(p.1,cD p.2)) with
    |some cells=>do pure (.slice (some (<-_root_.Go.newRow e cells)) len len)
    |none=>stuck "buildSlice: a part of the wrong size" :Sem Value).run P w->(Instr.buildSlice t len (parts.map λ(i,x)=>(i,cD x))).run P w=r)->
   e5 P μ H w (Instr.buildSlice t len (parts.map λ(i,x)=>(i,cD x))) (.slice b 0 len (.exact len)) aX:=by
  intro zero qX e6
  obtain⟨c',aa,ad⟩:=ye _ g cD al parts.toList _ cs _ qX hf
  obtain⟨aE,rfl,bf,bH,bU⟩:=A9 (P:=P) ak ad aj
  refine⟨_,_,.slice (some ⟨w.heap.size,0,none⟩) len len,?_,⟨_,bf,by simp[D7]⟩,bH,bU⟩
  refine e6 _ ?_
  rw[aa]
  simp[aE]
 by_cases h0:len*sz=0
 · refine key #[] (by rw[if_pos h0,h0];simp[cm]) λr aj=>?_
   rw[aj]
   simp only[Instr.buildSlice,Sem.run_bind,b4 hu,Result.andThen_ok,run_sizeOf hs,if_neg yh,if_pos h0,Sem.run_pure,Array.toList_map]
   generalize Instr.fill _ _ _=F
   cases F<;>rfl
 · refine key v.cells (by rw[if_neg h0];exact yg ag n9 len) λr aj=>?_
   rw[aj]
   simp only[Instr.buildSlice,Sem.run_bind,b4 hu,Result.andThen_ok,run_sizeOf hs,if_neg yh,if_neg h0,Sem.run_pure,Array.toList_map,aD]
   generalize Instr.fill _ _ _=F
   cases F<;>rfl
end
end bt
namespace bt
open Go
theorem sg(n:Nat)(h:n<9223372036854775808):IntKind.wrap .i64 (n:Int)=(n:Int):=by
 have e:((n:Int) %18446744073709551616)=n:=by omega
 have ax:(2:Int)^64=18446744073709551616:=by rfl
 have bD:(2:Int)^63=9223372036854775808:=by rfl
 simp only[IntKind.wrap,IntKind.bits,IntKind.signed,ax,bD,e,Bool.true_and,decide_eq_true_eq,Nat.add_one_sub_one]
 rw[if_neg (by show¬((2:Int)^63<=n);rw[bD];omega)]
section
variable {P:Program} {μ:bz} {H:J} {w:World}
theorem Rg(ak:bB μ H w){t e:TypeId}{l c:Nat}{i:TypeInfo}{z:I}{kl kc:IntKind}(hu:P.underlying t=some (.slice e))(af:P.info? e=some i)(aW:ev P e=some z)(sf:l<=c)
  (vP:c*(i.bytes+1)<=1099511627776)(n9:z.cells.length=i.size){b:Nat}{aX:J}(aj:newRow H e (if c*i.size=0 then[] else fs c z.cells)=some (b,aX)):
  e5 P μ H w (Instr.makeSlice t (.int kl l) (.int kc c)) (.slice b 0 l (.exact c)) aX:=by
 obtain⟨v,aD,rfl,ae⟩:=my (w:=w) aW
 have ag:=(kD μ v).cells ae
 have sh:c<=1099511627776:=Nat.le_trans (Nat.le_mul_of_pos_right c (by omega)) vP
 have mz:i.bytes*c<=1099511627776:=by
  have:c*i.bytes<=c*(i.bytes+1):=Nat.mul_le_mul_left c (by omega)
  rw[Nat.mul_comm];omega
 have yi:∀n:Nat,n<=1099511627776->IntKind.wrap .i64 (n:Int)=(n:Int):=λn aN=>sg n (by omega)
 have ll:=yi l (by omega)
 have yj:=yi c sh
 have tI:¬((c:Int)<0||(i.bytes:Int)*(c:Int)>2^48||(l:Int)<0||(l:Int)>(c:Int))=true:=by
  have aa:((i.bytes:Int)*(c:Int))<=1099511627776:=by
   have h0:((i.bytes*c:Nat):Int)<=1099511627776:=by omega
   rw[Int.natCast_mul] at h0;exact h0
  have ad:(2:Int)^48=281474976710656:=by rfl
  generalize (i.bytes:Int)*(c:Int)=q at aa⊢
  rw[ad]
  simp only[Bool.or_eq_true,decide_eq_true_eq]
  omega
 have key:∀zero:Array Value,cm μ (if c*i.size=0 then[] else fs c (oP v).cells) ((Array.range (c*i.size)).map (λj=>zero[j %zero.size]!)).toList->
   (Instr.makeSlice t (.int kl l) (.int kc c)).run P w=(do let a<-_root_.Go.newRow e ((Array.range (c*i.size)).map (λj=>zero[j %zero.size]!));pure (.slice (some a) l c):Sem Value).run P w->
   e5 P μ H w (Instr.makeSlice t (.int kl l) (.int kc c)) (.slice b 0 l (.exact c)) aX:=by
  intro zero qX e6
  obtain⟨aE,rfl,bf,bH,bU⟩:=A9 (P:=P) ak qX aj
  refine⟨_,_,.slice (some ⟨w.heap.size,0,none⟩) l c,?_,⟨_,bf,by simp[D7]⟩,bH,bU⟩
  rw[e6]
  simp only[Sem.run_bind,Sem.run_pure]
  have:(⟨((Array.range (c*i.size)).map (λj=>zero[j %zero.size]!)).toList⟩:Array Value)=((Array.range (c*i.size)).map (λj=>zero[j %zero.size]!)):=rfl
  rw[this] at aE
  rw[aE];rfl
 have bA:(_root_.Go.sizeOf e).run P w=.ok i.size w:=by simp[_root_.Go.sizeOf,run_typeInfo af]
 by_cases h0:c*i.size=0
 · refine key #[] (by rw[if_pos h0,h0];simp[cm]) ?_
   simp only[Instr.makeSlice,Sem.run_bind,b4 hu,Result.andThen_ok,asInt,asIntOf,Sem.run_pure,run_typeInfo af,ll,yj]
   rw[if_neg tI]
   simp[bA,h0]
 · refine key v.cells (by rw[if_neg h0];exact yg ag n9 c) ?_
   simp only[Instr.makeSlice,Sem.run_bind,b4 hu,Result.andThen_ok,asInt,asIntOf,Sem.run_pure,run_typeInfo af,ll,yj]
   rw[if_neg tI]
   simp[bA,h0,aD]
theorem Rh{x:I}{v:Value}(aD:bp μ x v)(ab:(∃b o,x=.ptr b o)\/(∃b o n c,x=.slice b o n c)\/(∃f a b,x=.fn f a b)\/∃t y,x=.iface t y):
  ∀(o:Oper) (op:Operand) (cD:Operand->Value),cD op=v->o.op=.nilCheck op->(execOp cD o).run P w=.ok (.value v) w:=by
 intro o op cD Ri aY
 simp only[execOp,aY,Ri]
 rcases ab with⟨b,o',rfl⟩|⟨b,o',n,c,rfl⟩|⟨f,a,b,rfl⟩|⟨t,y,rfl⟩
 · obtain⟨i,_,rfl⟩:=aD;rfl
 · obtain⟨i,_,ag⟩:=aD
   cases c with
   |exact c=>cases ag;rfl
   |aR gR=>obtain⟨c,rfl,_⟩:=ag;rfl
   |dead=>obtain⟨_,a,c,rfl⟩:=ag;rfl
 · obtain⟨b0,cs,rfl,_,_⟩:=aD;rfl
 · obtain⟨Rj,rfl,_⟩:=aD;rfl
theorem Rk(op:BinOp)(t:TypeId)(k:IntKind)(x y:Int)(eV:op≠ .shl/\op≠ .shr):binOp op t (.int k x) (.int k y)=match op with
  |.add|.sub|.mul=>Op.intArith op k x y
  |.quo|.rem=>Op.intDiv op k x y
  |.and|.or|.xor|.andNot=>Op.intBits op k x y
  |_=>Op.intCmp op x y:=by
 cases op<;>first
  |(exact absurd rfl eV.1)
  |(exact absurd rfl eV.2)
  |simp[binOp]
theorem Rl{op:BinOp}{k:IntKind}{x y:Int}{v:I}(h:arith op k x y=some v)(eV:op≠ .shl/\op≠ .shr)(t:TypeId):
  ∃u,(binOp op t (.int k x) (.int k y)).run P w=.ok u w/\bp μ v u:=by
 rw[Rk op t k x y eV]
 cases op<;>simp only[arith] at h
 case shl=>cases h
 case shr=>cases h
 case quo=>
  split at h
  · cases h
  · rename_i aU;cases h;exact⟨_,by simp only[Op.intDiv,if_neg aU];rfl,rfl⟩
 case rem=>
  split at h
  · cases h
  · rename_i aU;cases h;exact⟨_,by simp only[Op.intDiv,if_neg aU];rfl,rfl⟩
 all_goals (cases h;exact⟨_,rfl,rfl⟩)
theorem I5{op:BinOp}{k dh:IntKind}{x y:Int}{v:I}(h:r0 op k x y=some v)(t:TypeId):
  ∃u,(binOp op t (.int k x) (.int dh y)).run P w=.ok u w/\bp μ v u:=by
 unfold r0 at h
 split at h
 · cases h
 · rename_i aU
   cases op<;>simp only[] at h<;>first
    |(cases h;done)
    |(cases h;exact⟨_,by simp[binOp,Op.shift,aU],rfl⟩)
theorem I6(b:ByteArray):∀(n i:Nat) (r:List UInt8),b.size-i=n->ByteArray.toList.loop b i r=r.reverse++b.data.toList.drop i
 |0,i,r,h=>by
  rw[ByteArray.toList.loop]
  have hs:b.data.toList.length=b.size:=Array.length_toList
  rw[if_neg (by omega),List.drop_eq_nil_of_le (by omega)];simp
 |n+1,i,r,h=>by
  rw[ByteArray.toList.loop]
  have hs:b.data.toList.length=b.size:=Array.length_toList
  rw[if_pos (by omega),I6 b n (i+1) _ (by omega)]
  rw[List.drop_eq_getElem_cons (i:=i) (by omega)]
  have:b.get! i=b.data.toList[i]'(by omega):=by
   have ad:i<b.data.size:=by have:=Array.length_toList (xs:=b.data);omega
   show b.data[i]! =_
   rw[getElem!_pos b.data i ad];simp
  simp[this]
theorem si(s:ByteArray):s.toList=s.data.toList:=by
 unfold ByteArray.toList
 rw[I6 s _ 0 [] rfl];simp
theorem n_:∀a b:List UInt8,dd a b=(a==b)
 |[],[]=>rfl
 |[],_::_=>rfl
 |_::_,[]=>rfl
 |a::x,b::y=>by
  have bb:=n_ x y
  simp only[dd,List.cons_beq_cons]
  cases e:Nat.beq a.toNat b.toNat with
  |true=>
   have:a=b:=UInt8.toNat_inj.1 (Nat.eq_of_beq_eq_true e)
   subst this;simp[bb]
  |false=>
   have:(a==b)=false:=by
    rw[beq_eq_false_iff_ne];intro h;subst h;simp at e
   simp[this]
theorem Ed:∀a b:List UInt8,dO a b=Op.bytesLess a b
 |[],[]=>rfl
 |[],_::_=>rfl
 |_::_,[]=>rfl
 |a::x,b::y=>by
  have bb:=Ed x y
  simp only[dO,Op.bytesLess]
  cases e:Nat.beq a.toNat b.toNat with
  |true=>
   have:a=b:=UInt8.toNat_inj.1 (Nat.eq_of_beq_eq_true e)
   subst this;simp[bb]
  |false=>
   have aa:(a==b)=false:=by
    rw[beq_eq_false_iff_ne];intro h;subst h;simp at e
   have ad:decide (a<b)=Nat.blt a.toNat b.toNat:=by
    rw[Bool.eq_iff_iff];simp[UInt8.lt_iff_toNat_lt]
   simp[aa,ad]
theorem I7:∀a b:List UInt8,(Op.bytesLess a b||(a==b))=!Op.bytesLess b a
 |[],[]=>rfl
 |[],_::_=>rfl
 |_::_,[]=>rfl
 |a::x,b::y=>by
  have bb:=I7 x y
  simp only[Op.bytesLess,List.cons_beq_cons]
  by_cases h:a=b
  · subst h
    have:¬(a<a):=UInt8.lt_irrefl a
    simpa[this] using bb
  · have cX:(a==b)=false:=beq_eq_false_iff_ne.2 h
    have Rm:(b==a)=false:=beq_eq_false_iff_ne.2 (λe=>h e.symm)
    simp only[cX,Rm,Bool.false_and,Bool.or_false]
    rw[Bool.eq_iff_iff]
    simp only[decide_eq_true_eq,Bool.not_eq_true',decide_eq_false_iff_not,UInt8.lt_iff_toNat_lt]
    have:a.toNat≠b.toNat:=λe=>h (UInt8.toNat_inj.1 e)
    omega
theorem Rn{op:BinOp}{a b:ByteArray}{v:I}(h:gT op a.data.toList b.data.toList=some v)(t:TypeId):∃u,(binOp op t (.string a) (.string b)).run P w=.ok u w/\bp μ v u:=by
 have aL:=si a
 have ae:=si b
 have aa:=n_ a.data.toList b.data.toList
 have ad:=Ed a.data.toList b.data.toList
 have av:=Ed b.data.toList a.data.toList
 have bc:=I7 a.data.toList b.data.toList
 have sj:a.data.toList.length=a.size:=Array.length_toList
 have Ro:b.data.toList.length=b.size:=Array.length_toList
 cases op<;>simp only[gT] at h
 case add=>
  split at h
  · cases h
  · rename_i aw
    cases h
    refine⟨.string (a++b),?_,⟨a++b,rfl,by simp[ByteArray.data_append]⟩⟩
    rw[sj,Ro] at aw
    simp only[binOp,Op.stringOp]
    rw[if_neg aw];rfl
 case eql=>cases h;exact⟨_,rfl,congrArg Value.bool (by rw[aL,ae,aa])⟩
 case neq=>cases h;exact⟨_,rfl,congrArg Value.bool (by rw[aL,ae,aa])⟩
 case lss=>cases h;exact⟨_,rfl,congrArg Value.bool (by rw[aL,ae,ad])⟩
 case leq=>cases h;exact⟨_,rfl,congrArg Value.bool (by rw[aL,ae,av];exact bc)⟩
 case gtr=>cases h;exact⟨_,rfl,congrArg Value.bool (by rw[aL,ae,av,bc,Bool.not_not])⟩
 case geq=>cases h;exact⟨_,rfl,congrArg Value.bool (by rw[aL,ae,ad])⟩
 all_goals cases h
def oc(μ:bz):Option I->Option Value->Prop
 |none,none=>True
 |some a,some v=>bp μ a v
 |_,_=>False
theorem oc.map(g:Operand->I)(cD:Operand->Value)(al:∀x,bp μ (g x) (cD x))(o:Option Operand):oc μ (o.map g) (o.map cD):=by
 cases o with
 |none=>trivial
 |some x=>exact al x
theorem I8{a:I}{n:Nat}(h:eI a=some n){v:Value}(aD:bp μ a v):∃k,v=.int k (n:Int):=by
 unfold eI at h
 split at h
 · rename_i k m;cases h;exact⟨k,aD⟩
 · cases h
theorem Ee{n y:Nat}{k:IntKind}(h:n<=y)(c:BoundsCode):(Instr.sliceBound (.int k (n:Int)) y c).run P w=.ok n w:=by
 simp only[Instr.sliceBound,asIntOf,Sem.run_bind,Sem.run_pure,Result.andThen_ok]
 rw[if_pos ⟨by omega,by omega⟩]
 simp
theorem I9{d n:Nat}{o:Option I}{o':Option Value}(h:g4 d o=some n)(aj:oc μ o o'):(o'=none/\n=d/\o=none)\/∃k a,o=some a/\o'=some (.int k (n:Int)):=by
 cases o with
 |none=>cases o' with
  |none=>simp[g4] at h;exact .inl ⟨rfl,h.symm,rfl⟩
  |some _=>exact aj.elim
 |some a=>cases o' with
  |none=>exact aj.elim
  |some v=>obtain⟨k,e⟩:=I8 (μ:=μ) h aj;exact .inr ⟨k,a,rfl,by rw[e]⟩
theorem oX{len cap l h m:Nat}{aI af mx:Option I}{qY eY mx':Option Value}(iA:oc μ aI qY)(kE:oc μ af eY)(jb:oc μ mx mx')
  (ae:bounds len cap aI af mx=some (l,h,m))(b:Bool):(Instr.sliceBounds b len cap qY eY mx').run P w=.ok (l,h,m) w/\l<=h/\h<=m/\m<=cap/\(mx=none->m=cap):=by
 unfold bounds at ae
 cases em:g4 cap mx with
 |none=>rw[em] at ae;cases ae
 |some a5=>
  rw[em] at ae
  simp only at ae
  cases hm:Nat.ble a5 cap with
  |false=>rw[hm] at ae;cases ae
  |true=>
   rw[hm] at ae
   simp only at ae
   have qZ:=Nat.le_of_ble_eq_true hm
   split at ae
   · cases ae
   · rename_i ak A_
     cases Ef:Nat.ble ak a5 with
     |false=>rw[Ef] at ae;cases ae
     |true=>
      rw[Ef] at ae
      simp only at ae
      have I_:=Nat.le_of_ble_eq_true Ef
      cases el:g4 0 aI with
      |none=>rw[el] at ae;cases ae
      |some bw=>
       rw[el] at ae
       simp only at ae
       cases aw:Nat.ble bw ak with
       |false=>rw[aw] at ae;cases ae
       |true=>
        rw[aw] at ae
        simp only[Option.some.injEq,Prod.mk.injEq] at ae
        obtain⟨rfl,rfl,rfl⟩:=ae
        have q0:=Nat.le_of_ble_eq_true aw
        have Rp:(eY=none/\mx'=none/\ak=len)\/∃k,eY=some (.int k (ak:Int)):=by
         cases af with
         |none=>cases eY with
          |some _=>exact kE.elim
          |none=>cases mx with
           |some _=>simp at A_
           |none=>cases mx' with
            |some _=>exact jb.elim
            |none=>simp at A_;exact .inl ⟨rfl,rfl,A_.symm⟩
         |some a=>cases eY with
          |none=>exact kE.elim
          |some v=>
           have hE:eI a=some ak:=by cases mx<;>simpa using A_
           obtain⟨k,e⟩:=I8 (μ:=μ) hE kE
           exact .inr ⟨k,by rw[e]⟩
        refine⟨?_,q0,I_,qZ,λe=>by rw[e] at em;simp[g4] at em;exact em.symm⟩
        rcases I9 em jb with⟨aA,ax,_⟩|⟨bJ,_,_,aA⟩<;>rcases Rp with⟨bD,ed,fF⟩|⟨bQ,bD⟩<;>rcases I9 el iA with⟨gu,gj,_⟩|⟨ez,_,_,gu⟩<;>
         first
         |(exfalso;simp[aA] at ed;done)
         |(subst_vars;simp[Instr.sliceBounds,Ee qZ,Ee I_,Ee q0])
end
end bt
namespace bt
open Go
section
variable {P:Program} {μ:bz} {H:J} {w:World}
theorem Rq(t:ByteArray)(l h:Nat)(ak:h<=t.size):(t.extract l h).data.toList=List.take (h-l) (jH l t.data.toList):=by
 rw[ng]
 simp only[ByteArray.data_extract,Array.toList_extract,List.extract_eq_take_drop]
theorem yk{m n:Nat}(h:m<=n):Nat.ble m n=true:=Nat.ble_eq_true_of_le h
theorem Eg{len k c:Nat}{aI af mx:Option I}{l h m:Nat}(ae:bounds len k aI af mx=some (l,h,m))(aq:k<=c):bounds len c aI af mx=some (l,h,if mx.isNone then c else m):=by
 have fin:∀(a5 bX:Nat) (E:Option Nat),a5<=bX->
   (match E with
   |none=>none
   |some ak=>match Nat.ble ak a5 with
    |false=>none
    |true=>match g4 0 aI with
     |none=>none
     |some l=>match Nat.ble l ak with
      |false=>none
      |true=>some (l,ak,a5))=some (l,h,m)->
   (match E with
   |none=>none
   |some ak=>match Nat.ble ak bX with
    |false=>none
    |true=>match g4 0 aI with
     |none=>none
     |some l=>match Nat.ble l ak with
      |false=>none
      |true=>some (l,ak,bX))=some (l,h,bX):=by
  intro a5 bX E hm fG
  cases E with
  |none=>cases fG
  |some ak=>
   simp only at fG⊢
   cases aa:Nat.ble ak a5 with
   |false=>rw[aa] at fG;cases fG
   |true=>
    rw[aa] at fG
    rw[yk (Nat.le_trans (Nat.le_of_ble_eq_true aa) hm)]
    simp only at fG⊢
    cases aw:g4 0 aI with
    |none=>rw[aw] at fG;cases fG
    |some bw=>
     rw[aw] at fG
     simp only at fG⊢
     cases aG:Nat.ble bw ak with
     |false=>rw[aG] at fG;cases fG
     |true=>rw[aG] at fG;simp only[Option.some.injEq,Prod.mk.injEq] at fG⊢;exact⟨fG.1,fG.2.1,trivial⟩
 unfold bounds at ae⊢
 cases mx with
 |none=>
  have aA:g4 k none=some k:=rfl
  have ax:g4 c none=some c:=rfl
  rw[aA] at ae;rw[ax]
  simp only at ae⊢
  rw[yk (Nat.le_refl k)] at ae;rw[yk (Nat.le_refl c)]
  simp only[Option.isNone_none,if_true] at ae⊢
  cases af with
  |none=>exact fin k c (some len) aq ae
  |some a=>exact fin k c (eI a) aq ae
 |some tJ=>
  have aA:g4 k (some tJ)=eI tJ:=rfl
  have ax:g4 c (some tJ)=eI tJ:=rfl
  rw[aA] at ae;rw[ax]
  cases em:eI tJ with
  |none=>rw[em] at ae;cases ae
  |some a5=>
   rw[em] at ae
   simp only at ae⊢
   cases aa:Nat.ble a5 k with
   |false=>rw[aa] at ae;cases ae
   |true=>
    rw[aa] at ae
    rw[yk (Nat.le_trans (Nat.le_of_ble_eq_true aa) aq)]
    simp only[Option.isNone_some,Bool.false_eq_true,if_false] at ae⊢
    have Rr:a5=m:=by
     cases af<;>simp only at ae
     · cases ae
     · split at ae<;>try cases ae
       split at ae<;>try cases ae
       split at ae<;>try cases ae
       split at ae<;>first|cases ae;rfl|cases ae
    subst Rr
    cases af<;>exact ae
theorem Rs(ak:bB μ H w){t:TypeId}{x:I}{bG:Value}(ab:bp μ x bG){aI af mx:Option I}{qY eY mx':Option Value}(iA:oc μ aI qY)(kE:oc μ af eY)(jb:oc μ mx mx'){v:I}
  (h:c1 P H t x aI af mx=some v):e5 P μ H w (Instr.sliceAt t bG qY eY mx') v H:=by
 unfold c1 at h
 split at h
 ·
  rename_i s hu
  obtain⟨bs,rfl,rfl⟩:=ab
  cases mx with
  |some _=>cases h
  |none=>
   simp only at h
   cases mx' with
   |some _=>exact jb.elim
   |none=>
    split at h
    · rename_i l ae m fu
      cases h
      have bA:bs.data.toList.length=bs.size:=Array.length_toList
      rw[bA] at fu
      obtain⟨r1,r2,dS,eZ,_⟩:=oX (P:=P) (w:=w) iA kE (μ:=μ) (mx:=none) (mx':=none) trivial fu false
      refine .same ak (v':=.string (bs.extract l ae)) ?_ ⟨_,rfl,Rq _ _ _ (by omega)⟩
      simp[Instr.sliceAt,Instr.slice,b4 hu,r1]
    · cases h
 ·
  rename_i e hu
  cases ab
  split at h
  · rename_i sz r hs fu
    cases h
    obtain⟨l,ae,m⟩:=r
    obtain⟨r1,r2,dS,eZ,_⟩:=oX (P:=P) (w:=w) iA kE jb fu true
    have:m=0/\l=0/\ae=0:=by omega
    obtain⟨rfl,rfl,rfl⟩:=this
    exact .same ak (v':=.slice none 0 0) (by simp[Instr.sliceAt,Instr.slice,b4 hu,r1,run_sizeOf hs]) rfl
  · cases h
 ·
  rename_i e b off len cap hu
  obtain⟨i,od,ag⟩:=ab
  cases ag
  split at h
  · rename_i sz l ae m hs fu
    cases h
    obtain⟨r1,r2,dS,eZ,_⟩:=oX (P:=P) (w:=w) iA kE jb fu true
    refine .same ak (v':=.slice (some ⟨i.bo,i.base+(if m=l then off else off+l*sz),none⟩) (ae-l) (m-l)) ?_ ⟨i,od,rfl⟩
    by_cases e:m=l
    · simp[Instr.sliceAt,Instr.slice,b4 hu,r1,run_sizeOf hs,e]
    · simp[Instr.sliceAt,Instr.slice,b4 hu,r1,run_sizeOf hs,e,add_plain,Nat.add_assoc]
  · cases h
 ·
  rename_i e b off len gR hu
  obtain⟨i,od,c,rfl,sf,bA⟩:=ab
  split at h
  · rename_i sz hs
    split at h
    · rename_i Ja
      subst Ja
      cases mx with
      |none=>
       cases mx' with
       |some _=>exact jb.elim
       |none=>
        simp only at h
        split at h
        · rename_i l ae m fu
          have yl:bounds len c aI af none=some (l,ae,c):=Eg fu sf
          obtain⟨r1,r2,dS,eZ,_⟩:=oX (P:=P) (w:=w) iA kE (μ:=μ) (mx:=none) (mx':=none) trivial yl true
          obtain⟨_,a1,b7,fv,_⟩:=oX (P:=P) (w:=w) iA kE (μ:=μ) (mx:=none) (mx':=none) trivial fu true
          have e6:(Instr.sliceAt t (.slice (some ⟨i.bo,i.base+off,none⟩) len c) qY eY none).run P w=.ok (.slice (some (if c=l then⟨i.bo,i.base+off,none⟩ else⟨i.bo,i.base+off+l*sz,none⟩)) (ae-l) (c-l)) w:=by
           by_cases e:c=l
           · subst e;simp[Instr.sliceAt,Instr.slice,b4 hu,r1,run_sizeOf hs]
           · simp[Instr.sliceAt,Instr.slice,b4 hu,r1,run_sizeOf hs,e,add_plain]
          split at h
          · rename_i Jb
            subst Jb
            cases h
            refine .same ak e6 ⟨i,od,c,?_,by omega,bA⟩
            by_cases e:c=0
            · simp[e]
            · simp[e]
          · rename_i Jb
            split at h
            · rename_i ch
              cases h
              simp only[Nat.blt_eq] at ch
              refine .same ak e6 ⟨i,od,c-l,?_,by omega,?_⟩
              · rw[if_neg (by omega)];simp[Nat.add_assoc]
              · have:c*sz=l*sz+(c-l)*sz:=by rw[<-Nat.add_mul];congr 1;omega
                omega
            · rename_i ch
              cases h
              have ym:¬l<len:=by simpa[Nat.blt_eq] using ch
              have h0:ae-l=0:=by omega
              rw[h0] at e6
              exact .same ak e6 ⟨i,od,rfl,_,c-l,rfl⟩
        · cases h
      |some tJ=>
       simp only at h
       split at h
       · rename_i l ae m fu
         cases h
         obtain⟨_,a1,b7,fv,_⟩:=oX (P:=P) (w:=w) iA kE jb fu true
         have yl:bounds len c aI af (some tJ)=some (l,ae,m):=Eg fu sf
         obtain⟨r1,r2,dS,eZ,_⟩:=oX (P:=P) (w:=w) iA kE jb yl true
         refine .same ak (v':=.slice (some ⟨i.bo,i.base+(if m=l then off else off+l*sz),none⟩) (ae-l) (m-l)) ?_ ⟨i,od,rfl⟩
         by_cases e:m=l
         · simp[Instr.sliceAt,Instr.slice,b4 hu,r1,run_sizeOf hs,e]
         · simp[Instr.sliceAt,Instr.slice,b4 hu,r1,run_sizeOf hs,e,add_plain,Nat.add_assoc]
       · cases h
    · cases h
  · cases h
 ·
  rename_i e b off len hu
  obtain⟨i,od,rfl,a,c,rfl⟩:=ab
  split at h
  · rename_i sz r hs fu
    cases h
    obtain⟨l,ae,m⟩:=r
    obtain⟨_,a1,b7,fv,fV⟩:=oX (P:=P) (w:=w) iA kE jb fu true
    have:m=0/\l=0/\ae=0:=by omega
    obtain⟨rfl,rfl,rfl⟩:=this
    have yl:bounds 0 c aI af mx=some (0,0,(if mx.isNone then c else 0)):=Eg fu (Nat.zero_le _)
    obtain⟨r1,r2,dS,eZ,_⟩:=oX (P:=P) (w:=w) iA kE jb yl true
    refine .same ak (v':=.slice (some a) 0 ((if mx.isNone then c else 0)-0)) ?_ ⟨i,od,rfl,a,_,rfl⟩
    have aL:a.add (0*sz)=a:=by simp[Addr.add]
    simp[Instr.sliceAt,Instr.slice,b4 hu,r1,run_sizeOf hs,Addr.add]
  · cases h
 ·
  rename_i n e b off hu
  obtain⟨i,od,rfl⟩:=ab
  split at h
  · rename_i sz l ae m hs fu
    cases h
    obtain⟨r1,r2,dS,eZ,_⟩:=oX (P:=P) (w:=w) iA kE jb fu false
    refine .same ak (v':=.slice (some ⟨i.bo,i.base+(if m=l then off else off+l*sz),none⟩) (ae-l) (m-l)) ?_ ⟨i,od,rfl⟩
    by_cases e:m=l
    · simp[Instr.sliceAt,Instr.sureAddr,b4 hu,r1,run_sizeOf hs,e]
    · simp[Instr.sliceAt,Instr.sureAddr,b4 hu,r1,run_sizeOf hs,e,add_plain,Nat.add_assoc]
  · cases h
 ·
  rename_i arr b off hu
  obtain⟨i,od,rfl⟩:=ab
  split at h
  · rename_i n e p2
    split at h
    · rename_i sz l ae m hs fu
      cases h
      obtain⟨r1,r2,dS,eZ,_⟩:=oX (P:=P) (w:=w) iA kE jb fu false
      refine .same ak (v':=.slice (some ⟨i.bo,i.base+(if m=l then off else off+l*sz),none⟩) (ae-l) (m-l)) ?_ ⟨i,od,rfl⟩
      by_cases e:m=l
      · simp[Instr.sliceAt,Instr.slice,asAddr,b4 hu,b4 p2,r1,run_sizeOf hs,e]
      · simp[Instr.sliceAt,Instr.slice,asAddr,b4 hu,b4 p2,r1,run_sizeOf hs,e,add_plain,Nat.add_assoc]
    · cases h
  · cases h
 · cases h
theorem sk{t:TypeId}{off:Nat}{cs:List I}{l:List Value}(aw:cm μ cs l){v:I}(h:js P t cs off=some v):∃u,(part t ⟨l⟩ off).run P w=.ok u w/\bp μ v u:=by
 unfold js at h
 split at h
 · rename_i n aL aN
   split at h
   · rename_i r aj
     cases h
     rw[ng] at aj
     obtain⟨aa,rfl⟩:=tH _ _ _ aj
     refine⟨.agg ⟨(l.drop off).take n⟩,?_,⟨_,rfl,?_⟩⟩
     · simp[part,vO aL,run_sizeOf aN,List.extract_eq_take_drop]
     · refine cm.x_ (by have:=aw.length;simp[this]) λj a aK=>?_
       rw[List.getElem?_take] at aK⊢
       split at aK
       · rename_i Eh
         rw[if_pos Eh]
         rw[List.getElem?_drop] at aK⊢
         exact aw.get aK
       · cases aK
   · cases h
 · rename_i _ aL
   rw[qV] at h
   obtain⟨u,hu,aj⟩:=aw.get h
   refine⟨u,?_,aj⟩
   simp[part,vO aL,hu]
 · cases h
theorem Rt(ak:bB μ H w){t:TypeId}{b0:Array Field}{fd:Field}{f:Nat}(hu:P.underlying t=some (.struct b0))(hf:b0[f]? =some fd){cs:List I}{bG:Value}(ab:bp μ (.agg cs) bG){v:I}
  (h:js P fd.type cs fd.offset=some v):e5 P μ H w (Instr.field t bG f) v H:=by
 obtain⟨l,rfl,aw⟩:=ab
 obtain⟨u,aa,ad⟩:=sk (P:=P) (w:=w) aw h
 exact .same ak (v':=u) (by simp[Instr.field,b4 hu,hf,asAgg,aa]) ad
theorem Ru(ak:bB μ H w){s:TypeId}{b0:Array Field}{fd:Field}{f n b off:Nat}(hu:P.underlying s=some (.struct b0))(hf:b0[f]? =some fd)(aN:dx P fd.type=some n)(yn:n≠0){bG:Value}
  (ab:bp μ (.ptr b off) bG):e5 P μ H w (Instr.fieldAt s bG f) (.ptr b (off+fd.offset)) H:=by
 obtain⟨i,af,rfl⟩:=ab
 refine .same ak (v':=.pointer (some ⟨i.bo,i.base+(off+fd.offset),none⟩)) ?_ ⟨i,af,rfl⟩
 simp[Instr.fieldAt,b4 hu,hf,Instr.sureAddr,fieldPlace,run_sizeOf aN,yn,add_plain,Nat.add_assoc]
theorem Rv(ak:bB μ H w){t e:TypeId}{b off n k sz:Nat}{c:bR}{bk:IntKind}(hu:P.underlying t=some (.slice e))(hs:dx P e=some sz){bG:Value}(ab:bp μ (.slice b off n c) bG)(aq:k<n):
  e5 P μ H w (Instr.indexAt t bG (.int bk (k:Int))) (.ptr b (off+k*sz)) H:=by
 obtain⟨i,af,ag⟩:=ab
 have jv:∃cap,bG=.slice (some ⟨i.bo,i.base+off,none⟩) n cap:=by
  cases c with
  |exact c=>exact⟨c,ag⟩
  |aR gR=>obtain⟨c,h,_⟩:=ag;exact⟨c,h⟩
  |dead=>obtain⟨h0,_⟩:=ag;omega
 obtain⟨cap,rfl⟩:=jv
 refine .same ak (v':=.pointer (some ⟨i.bo,i.base+(off+k*sz),none⟩)) ?_ ⟨i,af,rfl⟩
 simp only[Instr.indexAt,asIntOf,Sem.run_bind,Sem.run_pure,Result.andThen_ok,b4 hu]
 rw[if_pos ⟨by omega,by omega⟩]
 simp[run_sizeOf hs,add_plain,Nat.add_assoc]
theorem Rw(ak:bB μ H w){t e:TypeId}{b off n k sz:Nat}{bk:IntKind}(hu:P.underlying t=some (.array n e))(hs:dx P e=some sz){bG:Value}(ab:bp μ (.ptr b off) bG)(aq:k<n):
  e5 P μ H w (Instr.indexAt t bG (.int bk (k:Int))) (.ptr b (off+k*sz)) H:=by
 obtain⟨i,af,rfl⟩:=ab
 refine .same ak (v':=.pointer (some ⟨i.bo,i.base+(off+k*sz),none⟩)) ?_ ⟨i,af,rfl⟩
 simp only[Instr.indexAt,asIntOf,Sem.run_bind,Sem.run_pure,Result.andThen_ok,b4 hu,Instr.sureAddr]
 rw[if_pos ⟨by omega,by omega⟩]
 simp[run_sizeOf hs,add_plain,Nat.add_assoc]
theorem Rx(ak:bB μ H w){t e:TypeId}{n k sz:Nat}{bk:IntKind}{cs:List I}(hu:P.underlying t=some (.array n e))(hs:dx P e=some sz){bG:Value}(ab:bp μ (.agg cs) bG)(aq:k<n){v:I}
  (h:js P e cs (k*sz)=some v):e5 P μ H w (Instr.index t bG (.int bk (k:Int))) v H:=by
 obtain⟨l,rfl,aw⟩:=ab
 obtain⟨u,aa,ad⟩:=sk (P:=P) (w:=w) aw h
 refine .same ak (v':=u) ?_ ad
 simp only[Instr.index,asIntOf,Sem.run_bind,Sem.run_pure,Result.andThen_ok,b4 hu]
 rw[if_pos ⟨by omega,by omega⟩]
 simp[run_sizeOf hs,aa]
theorem Ry(ak:bB μ H w){t:TypeId}{k:Nat}{bk:IntKind}{s:List UInt8}(hu:P.underlying t=some .string){bG:Value}(ab:bp μ (.str s) bG){c:UInt8}(h:nth k s=some c):
  e5 P μ H w (Instr.index t bG (.int bk (k:Int))) (.int .u8 (Int.ofNat c.toNat)) H:=by
 obtain⟨bs,rfl,rfl⟩:=ab
 rw[qV] at h
 refine .same ak (v':=.int .u8 (c.toNat:Int)) ?_ rfl
 have aq:k<bs.data.size:=by
  rcases Nat.lt_or_ge k bs.data.size with an|an
  · exact an
  · rw[List.getElem?_eq_none (by simpa using an)] at h;cases h
 have al:bs[k]? =some c:=by
  rw[Array.getElem?_toList] at h
  rw[<-h]
  show(if h:k<bs.size then some bs[k] else none)=_
  have e0:k<bs.size:=aq
  rw[dif_pos e0,Array.getElem?_eq_getElem aq];rfl
 simp only[Instr.index,asIntOf,Sem.run_bind,Sem.run_pure,Result.andThen_ok,b4 hu]
 rw[if_pos (by omega)]
 simp[al]
end
end bt
namespace bt
open Go
section
variable {P:Program} {μ:bz} {H:J} {w:World}
theorem Ba(μ:bz):∀l:List UInt8,cm μ (dp l) (l.map λb=>.int .u8 b.toNat)
 |[]=>rfl
 |b::l=>⟨_,_,rfl,rfl,Ba μ l⟩
theorem Rz(t:ByteArray):(t.extract 0 t.size)=t:=by
 obtain⟨d⟩:=t
 simp[ByteArray.ext_iff,ByteArray.data_extract,ByteArray.size]
theorem Bb(ak:bB μ H w){size n:Nat}{x:I}{bG:Value}(ab:bp μ x bG){cs:List I}(h:fg H size x=some (n,cs)):
  (Builtin.lenOf bG).run P w=.ok n w/\(∃us:List Value,(Builtin.firstCells size n bG).run P w=.ok ⟨us⟩ w/\cm μ cs us):=by
 cases x<;>simp only[fg] at h<;>try cases h
 · split at h<;>try cases h
   obtain⟨bs,rfl,rfl⟩:=ab
   refine⟨by rw[show bs.data.toList.length=bs.size from Array.length_toList];rfl,_,?_,Ba μ _⟩
   have bA:bs.data.toList.length=bs.size:=Array.length_toList
   simp only[Builtin.firstCells,Sem.run_pure,bA,Rz]
   congr 1
   apply Array.ext'
   simp
 · cases ab
   exact⟨rfl,[],rfl,rfl⟩
 · rename_i b off len cap
   obtain⟨i,af,ag⟩:=ab
   cases cap with
   |dead=>
    obtain⟨rfl,a,c,rfl⟩:=ag
    simp at h
    obtain⟨rfl,rfl⟩:=h
    exact⟨rfl,[],by simp[Builtin.firstCells,_root_.Go.loadCells,loadCellsFrom],rfl⟩
   |exact c=>
    cases ag
    simp only at h
    split at h
    · rename_i bT aw
      cases h
      obtain⟨us,aa,ad⟩:=se (P:=P) ak af aw
      exact⟨rfl,us,by simp only[Builtin.firstCells];exact aa,ad⟩
    · cases h
   |aR gR=>
    obtain⟨c,rfl,_⟩:=ag
    simp only at h
    split at h
    · rename_i bT aw
      cases h
      obtain⟨us,aa,ad⟩:=se (P:=P) ak af aw
      exact⟨rfl,us,by simp only[Builtin.firstCells];exact aa,ad⟩
    · cases h
theorem RA{z:Value}(n:Nat){n8:List I}(aW:cm μ n8 z.cells.toList):cm μ (fs n n8) (Builtin.zeroCells z.cells n).toList:=by
 have:=yg aW rfl n
 have aw:=aW.length
 have av:z.cells.toList.length=z.cells.size:=by simp
 rw[aw,av] at this
 exact this
theorem RB(need old:Nat)(h:old<need):Builtin.nextslicecap need old<=4*need+2048:=by
 unfold Builtin.nextslicecap
 split
 · omega
 · split
   · omega
   · have al:∀rounds c,c<=2*need+768->(∀k,k<=rounds->True)->Builtin.growBy need rounds c<=4*need+2048:=by
       intro rounds
       induction rounds with
       |zero=>intro c ag _;simp only[Builtin.growBy];omega
       |succ r bb=>
        intro c ag _
        simp only[Builtin.growBy]
        split
        · omega
        · rename_i ch
          exact bb _ (by omega) (λ_ _=>trivial)
     exact al 4 old (by omega) (λ_ _=>trivial)
theorem bB.RC{w':World}(h:bB μ H w){b:Nat}{o o':dr}{i:eX}(ae:H.get b=some o)(gi:o.pX=false)(af:μ b=some i)
  (hs:w'.heap.size=w.heap.size)(aY:∀r,r≠i.bo->w'.heap[r]? =w.heap[r]?)(yb:w'.os=w.os)(Ea:w'.output=w.output)(Eb:w'.tape=w.tape)(base sz:Nat)
  (aj:pW (fE μ H.n ⟨i.bo,base,sz⟩) o' ⟨i.bo,base,sz⟩ w')(hdr:w.drawn<=w'.drawn:=by first|exact Nat.le_refl _|assumption):
  bB (fE μ H.n ⟨i.bo,base,sz⟩) ((H.set b none).push o') w'/\cg μ H w (fE μ H.n ⟨i.bo,base,sz⟩) ((H.set b none).push o') w':=by
 have hle:=h.oV ⟨i.bo,base,sz⟩
 have tK:b<H.n:=(h.lt b i af).1
 have vM:H.get b≠none:=by rw[ae];simp
 have h8:∀c,((H.set b none).push o').get c=if c=H.n then some o' else if c=b then none else H.get c:=λc=>by
  rw[J.gD,J.c7];rfl
 have qU:∀c,c<H.n->((H.set b none).push o').get c≠none->c≠b/\H.get c≠none:=λc ag aN=>by
  rw[h8,if_neg (by omega)] at aN
  by_cases e:c=b
  · rw[if_pos e] at aN;exact absurd rfl aN
  · rw[if_neg e] at aN;exact⟨e,aN⟩
 constructor
 · refine⟨λc fU j ag aK=>?_,λc d j k ag ao aK aq e=>?_,λc j aK=>?_,λc ag=>?_⟩
   · rw[h8] at ag
     by_cases e:c=H.n
     · rw[if_pos e] at ag;subst e;cases ag;rw[gI] at aK;cases aK;exact aj
     · rw[if_neg e] at ag;rw[hD _ _ e] at aK
       by_cases ax:c=b
       · rw[if_pos ax] at ag;cases ag
       · rw[if_neg ax] at ag
         exact(h.rel c fU j ag aK).mono hle (aY _ λcI=>ax (h.inj c b j i (by rw[ag];simp) ⟨o,ae,gi⟩ aK af cI))
   · have side:∀c j,c≠H.n->((H.set b none).push o').get c≠none->fE μ H.n ⟨i.bo,base,sz⟩ c=some j->j.bo≠i.bo:=λc j q1 ag aK e=>by
       rw[hD _ _ q1] at aK
       obtain⟨ba,a1⟩:=qU c (h.lt c j aK).1 ag
       exact ba (h.inj c b j i a1 ⟨o,ae,gi⟩ aK af e)
     by_cases aA:c=H.n
     · by_cases ax:d=H.n
       · rw[aA,ax]
       · subst aA;rw[gI] at aK;cases aK
         exact absurd e.symm (side d k ax (by obtain⟨x,ab,_⟩:=ao;rw[ab];simp) aq)
     · by_cases ax:d=H.n
       · subst ax;rw[gI] at aq;cases aq
         exact absurd e (side c j aA ag aK)
       · rw[hD _ _ aA] at aK;rw[hD _ _ ax] at aq
         exact h.inj c d j k (qU c (h.lt c j aK).1 ag).2 (by
          obtain⟨x,ab,pZ⟩:=ao
          rw[h8,if_neg ax] at ab
          split at ab
          · cases ab
          · exact⟨x,ab,pZ⟩) aK aq e
   · by_cases e:c=H.n
     · subst e;rw[gI] at aK;cases aK
       have:=(h.lt b i af).2
       exact⟨by simp,by rw[hs];exact this⟩
     · rw[hD _ _ e] at aK
       have:=h.lt c j aK
       exact⟨by simp;omega,by rw[hs];exact this.2⟩
   · simp at ag
     rw[h8,if_neg (by omega),if_neg (by omega)];exact h.bound c (by omega)
 · refine⟨hle,by omega,by simp,λc ag aN=>(qU c ag aN).2,λc ag hm=>(by rw[h8,if_neg (by omega),if_neg];intro e;subst e;rw[af] at hm;cases hm),λr _ aN=>aY r λe=>aN b i vM af e.symm,λc j aa ad=>?_,λc fU j ag sc aK=>?_,yb,Ea,Eb,hdr⟩
   · by_cases e:c=H.n
     · subst e;rw[gI] at ad;cases ad
       exact⟨Nat.le_refl _,.inr ⟨b,o,i,ae,gi,af,rfl⟩⟩
     · rw[hD _ _ e,aa] at ad;cases ad
   · have cX:c≠b:=by intro e;subst e;rw[ae] at ag;cases ag;rw[gi] at sc;cases sc
     have q1:=(h.lt c j aK).1
     refine⟨by rw[h8,if_neg (by omega),if_neg cX];exact ag,aY _ λe=>cX (h.inj c b j i (by rw[ag];simp) ⟨o,ae,gi⟩ aK af e)⟩
theorem bB.kill(h:bB μ H w){b:Nat}{o:dr}{i:eX}(ae:H.get b=some o)(gi:o.pX=false)(af:μ b=some i):
  bB μ (H.set b none) w/\cg μ H w μ (H.set b none) w:=by
 have qU:∀c,(H.set b none).get c≠none->H.get c≠none:=λc aN=>by
  rw[J.c7] at aN
  by_cases e:c=b
  · rw[if_pos e] at aN;exact absurd rfl aN
  · rw[if_neg e] at aN;exact aN
 constructor
 · refine⟨λc fU j ag aK=>?_,λc d j k ag ao=>h.inj c d j k (qU c ag) (by
     obtain⟨x,ab,pZ⟩:=ao
     rw[J.c7] at ab
     split at ab
     · cases ab
     · exact⟨x,ab,pZ⟩),h.lt,λc ag=>?_⟩
   · rw[J.c7] at ag
     by_cases e:c=b
     · rw[if_pos e] at ag;cases ag
     · rw[if_neg e] at ag;exact h.rel c fU j ag aK
   · rw[J.c7]
     split
     · rfl
     · exact h.bound c ag
 · refine⟨fi.refl μ,Nat.le_refl _,Nat.le_refl _,λc _ ag=>qU c ag,λc _ hm=>(by rw[J.c7,if_neg];intro e;subst e;rw[af] at hm;cases hm),λ_ _ _=>rfl,λc j aa ad=>(by rw[aa] at ad;cases ad),λc fU j ag sc aK=>⟨?_,rfl⟩,rfl,rfl,rfl,Nat.le_refl _⟩
   have cX:c≠b:=by intro e;subst e;rw[ae] at ag;cases ag;rw[gi] at sc;cases sc
   rw[J.c7,if_neg cX];exact ag
theorem bB.drew(h:bB μ H w):bB μ H w.drew:=h.of_heap rfl
theorem cg.drew:cg μ H w μ H w.drew:=cg.of_heap rfl rfl rfl rfl
theorem RD{need bytes:Nat}(h:kA need bytes=true):(4*need+2048)*bytes<=281474976710656/\need<=281474976710656:=by
 simp only[kA,Nat.ble_eq] at h
 have aa:(4*need+2048)*bytes<=(4*need+2048)*(bytes+1):=Nat.mul_le_mul_left _ (by omega)
 have ad:(4*need+2048)*1<=(4*need+2048)*(bytes+1):=Nat.mul_le_mul_left _ (by omega)
 refine⟨Nat.le_trans aa h,?_⟩
 have av:=Nat.le_trans ad h
 rw[Nat.mul_one] at av
 generalize 281474976710656=q at av⊢
 omega
theorem RE{sT e:TypeId}{xT:Option TypeId}{i:TypeInfo}{z:Value}{argTypes:Array TypeId}{ty:TypeId}(h0:argTypes[0]? =some sT)(aa:argTypes[1]? =xT)(hu:P.underlying sT=some (.slice e))(ab:pH P xT=true)(af:P.info? e=some i)
  (aW:∀w:World,(zeroValue e).run P w=.ok z w){base:Option Addr}{sLen sCap n:Nat}{bG:Value}(aw:(Builtin.lenOf bG).run P w=.ok n w){us old:List Value}(hold:(Builtin.firstCells i.size sLen (.slice base sLen sCap)).run P w.drew=.ok ⟨old⟩ w.drew)
  (sl:(Builtin.firstCells i.size n bG).run P w.drew=.ok ⟨us⟩ w.drew)(ch:sCap<sLen+n)(p3:kA (sLen+n) i.bytes=true):
  ∃mA,sLen+n<=mA/\(Builtin.append_ argTypes ty #[.slice base sLen sCap,bG]).run P w=
   .ok (.slice (some ⟨w.heap.size,0,none⟩) (sLen+n) mA) (w.drew.alloc (.cells (⟨old⟩++⟨us⟩++Builtin.zeroCells z.cells (mA-(sLen+n))) e)):=by
 obtain⟨a5,bX⟩:=RD p3
 have RF:=RB (sLen+n) sCap ch
 have vP:¬(Builtin.nextslicecap (sLen+n) sCap*i.bytes>2^48):=by
  have aa:Builtin.nextslicecap (sLen+n) sCap*i.bytes<=(4*(sLen+n)+2048)*i.bytes:=Nat.mul_le_mul_right _ RF
  have ad:(2:Nat)^48=281474976710656:=by rfl
  rw[ad]
  exact Nat.not_lt.2 (Nat.le_trans aa a5)
 have RG:IntKind.max .i64=9223372036854775807:=rfl
 have jc:¬(((sLen+n:Nat):Int)>IntKind.i64.max):=by rw[RG];omega
 have Jc:¬(sLen+n<=sCap):=by omega
 have bA:∀w:World,(_root_.Go.sizeOf e).run P w=.ok i.size w:=λw=>by simp[_root_.Go.sizeOf,run_typeInfo af]
 have Bc:(Question.appendCap (sLen+n) sCap e).forced=false:=rfl
 have yo:∀w:World,(typeInfo e).run P w=.ok i w:=λw=>run_typeInfo af
 have Bd:∀(c:Nat) (cs:Array Value),(_root_.Go.newRow e cs).run P w.drew=.ok ⟨w.heap.size,0,none⟩ (w.drew.alloc (.cells cs e)):=λc cs=>rfl
 refine⟨(Question.appendCap (sLen+n) sCap e).cut (w.tape w.drawn (Question.appendCap (sLen+n) sCap e)),by simp[Question.cut],?_⟩
 cases xT with
 |none=>
  simp only[Builtin.append_,h0,aa,List.getElem?_toArray,List.getElem?_cons_zero,List.getElem?_cons_succ,Sem.run_bind,b4 hu,Result.andThen_ok,bA,Sem.run_pure,aw,Bool.false_eq_true,if_false,if_neg Jc,yo,jc,false_and,if_neg vP,
   run_choose,Bc,run_askRoom,World.drew_eq,hold,sl,Bool.not_false,if_true,aW,Bd 0]
 |some Ei=>
  simp only[pH] at ab
  cases ao:P.underlying Ei with
  |none=>rw[ao] at ab;cases ab
  |some d=>
   rw[ao] at ab
   cases d<;>first
   |(cases ab;done)
   |simp only[Builtin.append_,h0,aa,List.getElem?_toArray,List.getElem?_cons_zero,List.getElem?_cons_succ,Sem.run_bind,b4 hu,b4 ao,Result.andThen_ok,bA,Sem.run_pure,aw,Bool.false_eq_true,if_false,if_neg Jc,yo,jc,false_and,if_neg vP,
    run_choose,Bc,run_askRoom,World.drew_eq,hold,sl,Bool.not_false,if_true,aW,Bd 0]
theorem yp{sT e:TypeId}{xT:Option TypeId}{i:TypeInfo}{argTypes:Array TypeId}{ty:TypeId}(h0:argTypes[0]? =some sT)(aa:argTypes[1]? =xT)(hu:P.underlying sT=some (.slice e))(ab:pH P xT=true)(af:P.info? e=some i)
  {base:Option Addr}{sLen sCap n:Nat}{bG:Value}(aw:(Builtin.lenOf bG).run P w=.ok n w){us:List Value}
  (sl:(Builtin.firstCells i.size n bG).run P w=.ok ⟨us⟩ w)(hle:sLen+n<=sCap):
  (Builtin.append_ argTypes ty #[.slice base sLen sCap,bG]).run P w=match base with
   |some a=>((_root_.Go.storeCells (a.add (sLen*i.size)) us).run P w).andThen λ_ w'=>.ok (.slice base (sLen+n) sCap) w'
   |none=>.ok (.slice base (sLen+n) sCap) w:=by
 have bA:∀w:World,(_root_.Go.sizeOf e).run P w=.ok i.size w:=λw=>by simp[_root_.Go.sizeOf,run_typeInfo af]
 cases xT with
 |none=>
  cases base<;>simp only[Builtin.append_,h0,aa,List.getElem?_toArray,List.getElem?_cons_zero,List.getElem?_cons_succ,Sem.run_bind,b4 hu,Result.andThen_ok,bA,Sem.run_pure,aw,Bool.false_eq_true,if_false,if_pos hle,Bool.not_false,if_true,sl]
 |some Ei=>
  simp only[pH] at ab
  cases ao:P.underlying Ei with
  |none=>rw[ao] at ab;cases ab
  |some d=>
   rw[ao] at ab
   cases d<;>first
   |(cases ab;done)
   |cases base<;>simp only[Builtin.append_,h0,aa,List.getElem?_toArray,List.getElem?_cons_zero,List.getElem?_cons_succ,Sem.run_bind,b4 hu,b4 ao,Result.andThen_ok,bA,Sem.run_pure,aw,Bool.false_eq_true,if_false,if_pos hle,Bool.not_false,if_true,sl]
theorem RH{l:List I}(h:l.all I.cO=true):∀a∈l,a.cO=true:=λa aL=>List.all_eq_true.1 h a aL
theorem Ej(ak:bB μ H w){sT e:TypeId}{xT:Option TypeId}{i:TypeInfo}{z:I}{argTypes:Array TypeId}{ty:TypeId}(h0:argTypes[0]? =some sT)(aa:argTypes[1]? =xT)(hu:P.underlying sT=some (.slice e))(ab:pH P xT=true)
  (af:P.info? e=some i)(aW:ev P e=some z){base:Option Addr}{sLen sCap n:Nat}{x:I}{bG:Value}(Be:bp μ x bG){cs:List I}(fj:fg H i.size x=some (n,cs)){old:List I}
  (hold:∃us:List Value,(Builtin.firstCells i.size sLen (.slice base sLen sCap)).run P w.drew=.ok ⟨us⟩ w.drew/\cm μ old us)(yq:old.length=sLen*i.size)(h9:cs.length=n*i.size)(ch:sCap<sLen+n){v:I}{H1 aX:J}(ju:bB μ H1 w)(RI:cg μ H w μ H1 w)
  {fz:Nat}(al:kB H1 e i.bytes i.size (sLen+n) z (old++cs) fz=some (v,aX)):e5 P μ H w (Builtin.append_ argTypes ty #[.slice base sLen sCap,bG]) v aX:=by
 obtain⟨fH,Jd,rfl,ae⟩:=my (P:=P) (w:=w) aW
 have RJ:∀w:World,(zeroValue e).run P w=.ok fH w:=λw=>by
  unfold ev at aW
  simp only[af] at aW
  cases Je:i.zero with
  |none=>rw[Je] at aW;cases aW
  |some Ek=>
   have ba:∀w:World,(zeroValue e).run P w=.ok Ek w:=λw=>by simp[zeroValue,run_typeInfo af,Je]
   rw[ba] at Jd
   cases Jd
   exact ba w
 obtain⟨aw,us,jw,lZ⟩:=Bb (P:=P) ak Be fj
 obtain⟨_,sm,RK,Jf⟩:=Bb (P:=P) ak.drew Be fj
 obtain⟨os,yb,Jg⟩:=hold
 unfold kB at al
 split at al
 · rename_i ag
   simp only[Bool.and_eq_true] at ag
   obtain⟨⟨p3,n9⟩,eB⟩:=ag
   cases al
   obtain⟨mA,El,RL⟩:=RE (P:=P) (w:=w) (ty:=ty) h0 aa hu ab af RJ aw yb RK ch p3
   have hS:=(kD μ fH).cells ae
   have RM:=Nat.eq_of_beq_eq_true n9
   have RN:fH.cells.size=i.size:=by have:=hS.length;rw[RM] at this;simpa using this.symm
   have RO:cm μ (old++cs) (os++sm):=Jg.append Jf
   have RP:os.length=sLen*i.size:=by rw[<-Jg.length,yq]
   have RQ:sm.length=n*i.size:=by rw[<-Jf.length,h9]
   have hmul:(sLen+n)*i.size=sLen*i.size+n*i.size:=Nat.add_mul _ _ _
   have Jh:mA*i.size=(sLen+n)*i.size+(mA-(sLen+n))*i.size:=by rw[<-Nat.add_mul,Nat.add_sub_of_le El]
   have RR:0+mA*i.size=((⟨os⟩:Array Value)++⟨sm⟩++Builtin.zeroCells fH.cells (mA-(sLen+n))).size:=by
    have ba:(⟨os⟩:Array Value).size=sLen*i.size:=RP
    have a1:(⟨sm⟩:Array Value).size=n*i.size:=RQ
    have b7:(Builtin.zeroCells fH.cells (mA-(sLen+n))).size=(mA-(sLen+n))*i.size:=by
     unfold Builtin.zeroCells;rw[Array.size_map,Array.size_range,RN]
    rw[Array.size_append,Array.size_append,ba,a1,b7,Jh,hmul]
    omega
   have hle:=ju.drew.oV ⟨w.heap.size,0,mA*i.size⟩
   obtain⟨r1,r2⟩:=ju.drew.alloc (.cells (old++cs) e .aR 0 fz) (.cells (⟨os⟩++⟨sm⟩++Builtin.zeroCells fH.cells (mA-(sLen+n))) e) (mA*i.size)
    ⟨_,0,0,World.heap_alloc_new _ _,λj a aK=>by
      obtain⟨u,lX,aj⟩:=RO.get aK
      refine⟨u,?_,aj.mono hle⟩
      have vQ:j<(os++sm).length:=by
       rcases Nat.lt_or_ge j (os++sm).length with h|h
       · exact h
       · rw[List.getElem?_eq_none h] at lX;cases lX
      rw[Nat.zero_add,Array.getElem?_append_left (by simpa using vQ)]
      simpa using lX,RR,by
      refine⟨?_,λj _ _ h=>by omega⟩
      simp[yq,h9];omega⟩
   refine⟨_,_,_,RL,⟨_,gI _ _ _,mA,rfl,El,by simp⟩,r1,?_⟩
   exact RI.trans ak ju (cg.drew.trans ju ju.drew r2)
 · cases al
end
end bt
