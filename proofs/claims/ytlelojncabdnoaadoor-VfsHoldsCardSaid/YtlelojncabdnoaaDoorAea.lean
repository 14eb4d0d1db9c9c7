/-
  THE ABSTRACT EVALUATOR (the evaluator's definitions; values and memory): a deterministic semantics of loaded code, and the proof that its runs are runs of the program in the model, whatever the tape draws. No condition.
-/
import GoSem.Step
import Derived.Calls
import Derived.Laws.Sem
import Derived.Laws.World
set_option linter.unusedVariables false
set_option linter.unusedSimpArgs false
namespace aU
open Go
inductive cy where
 |exact(n:Nat)
 |aE (e1:Nat)
 |dead
inductive I where
 |bad
 |bool (b:Bool)
 |int (k:IntKind) (n:Int)
 |str (s:List UInt8)
 |d_
 |ptr (b off:Nat)
 |bK
 |slice (b off len:Nat) (cap:cy)
 |gw
 |map (r:Nat)
 |h8
 |fn (f:Nat) (first caps:List I)
 |bY (l:Nat)
 |dY
 |iface (t:Nat) (v:I)
 |agg (cs:List I)
 |aF (vs:List I)
 deriving Inhabited
def I.cL:I->Bool
 |.bad|.agg _|.aF _=>false
 |_=>true
def I.cells:I->List I
 |.agg cs=>cs
 |v=>[v]
inductive gF where
 |here|l (p:gF)|r (p:gF)
inductive aC where
 |leaf
 |node (l:aC) (v:I) (r:aC)
def tD:Nat->Nat->gF
 |0,_=>.here
 |f+1,n=>match n with
  |0=>.here
  |m+1=>match Nat.mod m 2 with
   |0=>.l (tD f (Nat.div m 2))
   |_=>.r (tD f (Nat.div m 2))
def e2(n:Nat):gF:=tD n n
def aC.get:gF->aC->I
 |.here,.node _ v _=>v
 |.l p,.node l _ _=>get p l
 |.r p,.node _ _ r=>get p r
 |_,.leaf=>.bad
def aC.zc(l:aC)(v:I)(r:aC):aC:=match l with
 |.leaf=>.node .leaf v r
 |.node a b c=>.node (.node a b c) v r
def aC.zd(l:aC)(v:I)(r:aC):aC:=match r with
 |.leaf=>.node l v .leaf
 |.node a b c=>.node l v (.node a b c)
def aC.set:gF->I->aC->aC
 |.here,x,.node l _ r=>.node l x r
 |.here,x,.leaf=>.node .leaf x .leaf
 |.l p,x,.node l v r=>aC.zc (set p x l) v r
 |.l p,x,.leaf=>aC.zc (set p x .leaf) .bad .leaf
 |.r p,x,.node l v r=>aC.zd l v (set p x r)
 |.r p,x,.leaf=>aC.zd .leaf .bad (set p x .leaf)
inductive e3 where
 |own|aE|ro|fz
 deriving DecidableEq
structure df where
 key:I
 val:I
 born:Nat
inductive bo where
 |call (f:Nat) (args:List I)
 |collected (r:Nat)
inductive b2 where
 |cells (cs:List I) (el:Nat) (k:e3) (bF ag:Nat)
 |map (es:List df) (clock:Nat)
 |nI (s:List UInt8) (pos:Nat)
 |mapIter (m:Option Nat) (since:Nat) (seen:List Nat) (last:Nat)
 |loop (st:LoopState) (ey:Option Code) (fn:Nat) (j9:aC) (params:List Nat) (assign body:Code) (defers:Nat)
 |defrd (calls:Option (List bo))
 |raw (o:Obj)
inductive ea where
 |leaf
 |node (l:ea) (v:Option b2) (r:ea)
def ea.get:ea->Nat->Option b2
 |.leaf,_=>none
 |.node l v r,n=>match n with
  |0=>v
  |m+1=>match Nat.mod m 2 with
   |0=>get l (Nat.div m 2)
   |_=>get r (Nat.div m 2)
def ea.jI:Nat->ea->Nat->Option b2->ea
 |0,t,_,_=>t
 |f+1,.leaf,n,x=>match n with
  |0=>.node .leaf x .leaf
  |m+1=>match Nat.mod m 2 with
   |0=>.node (jI f .leaf (Nat.div m 2) x) none .leaf
   |_=>.node .leaf none (jI f .leaf (Nat.div m 2) x)
 |f+1,.node l v r,n,x=>match n with
  |0=>.node l x r
  |m+1=>match Nat.mod m 2 with
   |0=>.node (jI f l (Nat.div m 2) x) v r
   |_=>.node l v (jI f r (Nat.div m 2) x)
structure J where
 t:ea
 n:Nat
def J.get(h:J)(b:Nat):Option b2:=h.t.get b
def J.set(h:J)(b:Nat)(o:Option b2):J:=⟨ea.jI (b+1) h.t b o,h.n⟩
def J.push(h:J)(o:b2):J:=⟨ea.jI (h.n+1) h.t h.n (some o),h.n+1⟩
inductive h9 where
 |val (v:I) (h:J)
 |bm (v:I) (h:J)
 |call (f:Nat) (args:List I) (h:J)
 |bY (l:Nat) (args:List I) (h:J)
 |lu (d:bo)
 |p2
 |fail (hy:String)
inductive bL where
 |ret (v:I) (h:J)
 |bm (v:I) (h:J)
 |fail (hy:String)
mutual
def l9:Value->I
 |.bool b=>.bool b
 |.int k n=>.int k n
 |.string s=>.str s.data.toList
 |.pointer none=>.d_
 |.slice none 0 0=>.bK
 |.map none=>.gw
 |.nilFunc=>.h8
 |.nilIface=>.dY
 |.agg ⟨cs⟩=>.agg (wC cs)
 |.tuple ⟨vs⟩=>.aF (wC vs)
 |_=>.bad
def wC:List Value->List I
 |[]=>[]
 |v::vs=>l9 v::wC vs
end
def nth{α:Type}:Nat->List α->Option α
 |_,[]=>none
 |0,a::_=>some a
 |n+1,_::l=>nth n l
def takeN:Nat->List I->Option (List I)
 |0,_=>some []
 |_+1,[]=>none
 |n+1,a::l=>match takeN n l with
  |some r=>some (a::r)
  |none=>none
def hc{α:Type}:Nat->List α->List α
 |0,l=>l
 |_+1,[]=>[]
 |n+1,_::l=>hc n l
def cW:List UInt8->List UInt8->Bool
 |[],[]=>true
 |a::x,b::y=>match Nat.beq a.toNat b.toNat with
  |true=>cW x y
  |false=>false
 |_,_=>false
def dA:List UInt8->List UInt8->Bool
 |_,[]=>false
 |[],_::_=>true
 |a::x,b::y=>match Nat.beq a.toNat b.toNat with
  |true=>dA x y
  |false=>Nat.blt a.toNat b.toNat
def eW(x y:Int):Bool:=decide (x<y)
def lv(x y:Int):Bool:=decide (x<=y)
def dQ(x y:Int):Bool:=x==y
def loadCells(h:J)(b off n:Nat):Option (List I):=
 match h.get b with
 |some (.cells cs _ _ _ _)=>takeN n (hc off cs)
 |_=>none
def aO(h:J)(b off:Nat):Option I:=
 match h.get b with
 |some (.cells cs _ _ _ _)=>nth off cs
 |_=>none
def jh(k:e3)(bF ag off n:Nat):Bool:=
 match k with
 |.ro|.fz=>false
 |_=>Nat.ble ag bF||Nat.ble (off+n) bF||Nat.ble ag off
def putCells:Nat->List I->List I->Option (List I)
 |0,[],cs=>some cs
 |0,_::_,[]=>none
 |0,v::vs,_::cs=>match v.cL with
  |true=>match putCells 0 vs cs with
   |some r=>some (v::r)
   |none=>none
  |false=>none
 |_+1,[],cs=>some cs
 |_+1,_::_,[]=>none
 |n+1,vs,c::cs=>match putCells n vs cs with
  |some r=>some (c::r)
  |none=>none
def storeCells(h:J)(b off:Nat)(vs:List I):Option J:=
 match h.get b with
 |some (.cells cs el k bF ag)=>
  match jh k bF ag off vs.length with
  |true=>match putCells off vs cs with
   |some bq=>some (h.set b (some (.cells bq el k bF ag)))
   |none=>none
  |false=>none
 |_=>none
def newRow(h:J)(el:Nat)(cs:List I):Option (Nat×J):=
 match cs.all I.cL with
 |true=>some (h.n,h.push (.cells cs el .own 0 0))
 |false=>none
def jJ(P:Program)(t:TypeId):Option Bool:=
 match P.underlying t with
 |some (.struct _)=>some true
 |some (.array _ _)=>some true
 |some _=>some false
 |none=>none
def cG(P:Program)(t:TypeId):Option Nat:=match P.info? t with
 |some i=>some i.size
 |none=>none
def dV(P:Program)(t:TypeId):Option I:=match P.info? t with
 |some i=>match i.zero with
  |some z=>match l9 z with
   |.bad=>none
   |a=>some a
  |none=>none
 |none=>none
def kJ(P:Program)(t:TypeId)(cs:List I)(off:Nat):Option I:=
 match jJ P t,cG P t with
 |some true,some n=>match takeN n (hc off cs) with
  |some r=>some (.agg r)
  |none=>none
 |some false,_=>nth off cs
 |_,_=>none
def h_(place:Nat->Option (Nat×Nat))(cells:List I):List (Nat×I)->Option (List I)
 |[]=>some cells
 |(i,v)::rest=>
  match v with
  |.bad=>none
  |v=>match place i with
   |none=>none
   |some (off,size)=>
    match Nat.beq v.cells.length size&&Nat.ble (off+size) cells.length with
    |true=>match putCells off v.cells cells with
     |some Jf=>h_ place Jf rest
     |none=>none
    |false=>none
def fc{α:Type}:Nat->List α->List α
 |0,_=>[]
 |n+1,l=>l++fc n l
def eqFields(P:Program)(E:TypeId->I->I->Option Bool)(xs eG:List I):List Field->Option Bool
 |[]=>some true
 |f::aP=>match decide (f.name= "_") with
  |true=>eqFields P E xs eG aP
  |false=>match kJ P f.type xs f.offset,kJ P f.type eG f.offset with
   |some a,some b=>match E f.type a b with
    |some true=>eqFields P E xs eG aP
    |r=>r
   |_,_=>none
def tE(P:Program)(E:TypeId->I->I->Option Bool)(e:TypeId)(sz:Nat)(xs eG:List I):Nat->Nat->Option Bool
 |0,_=>some true
 |n+1,i=>match kJ P e xs (i*sz),kJ P e eG (i*sz) with
  |some a,some b=>match E e a b with
   |some true=>tE P E e sz xs eG n (i+1)
   |r=>r
  |_,_=>none
def ze(h:J)(a i b j:Nat):Option Bool:=
 match Nat.beq a b with
 |true=>some (Nat.beq i j)
 |false=>match h.get a,h.get b with
  |some (.cells _ _ .own 0 0),some (.cells _ _ .own 0 0)=>some false
  |_,_=>none
def gG(P:Program)(h:J):Nat->TypeId->I->I->Option Bool
 |0,_,_,_=>none
 |d+1,t,x,y=>
  match P.underlying t with
  |none=>none
  |some .bool=>match x,y with
   |.bool a,.bool b=>some (a==b)
   |_,_=>none
  |some (.int _)=>match x,y with
   |.int j a,.int k b=>if j=k then some (dQ a b) else none
   |_,_=>none
  |some .string=>match x,y with
   |.str a,.str b=>some (cW a b)
   |_,_=>none
  |some (.pointer e)=>match x,y with
   |.d_,.d_=>some true
   |.d_,.ptr _ _=>some false
   |.ptr _ _,.d_=>some false
   |.ptr a i,.ptr b j=>match cG P e with
    |some (_+1)=>ze h a i b j
    |_=>none
   |_,_=>none
  |some (.slice _)=>match x,y with
   |.bK,.bK=>some true
   |.bK,.slice _ _ _ _=>some false
   |.slice _ _ _ _,.bK=>some false
   |_,_=>none
  |some (.map _ _)=>match x,y with
   |.gw,.gw=>some true
   |.gw,.map _=>some false
   |.map _,.gw=>some false
   |_,_=>none
  |some (.func _ _ _)=>match x,y with
   |.h8,.h8=>some true
   |.h8,.fn _ _ _=>some false
   |.fn _ _ _,.h8=>some false
   |_,_=>none
  |some (.interface _)=>match x,y with
   |.dY,.dY=>some true
   |.dY,.iface _ _=>some false
   |.iface _ _,.dY=>some false
   |.iface a v,.iface b w=>match Nat.beq a b with
    |false=>some false
    |true=>match P.info? a with
     |some i=>match i.comparable with
      |true=>gG P h d a v w
      |false=>none
     |none=>none
   |_,_=>none
  |some (.struct aP)=>match x,y with
   |.agg xs,.agg eG=>match P.stoodInHeld t with
    |true=>none
    |false=>eqFields P (gG P h d) xs eG aP.toList
   |_,_=>none
  |some (.array n e)=>match x,y with
   |.agg xs,.agg eG=>match cG P e with
    |some sz=>tE P (gG P h d) e sz xs eG n 0
    |none=>none
   |_,_=>none
  |some _=>none
def oz(P:Program)(t:TypeId)(x y:Operand)(a b:I):Bool:=
 match a,b with
 |.dY,.dY=>(x matches .const _)||(y matches .const _)
 |.agg _,.agg _=>!P.eqGuardType P.depth t
 |_,_=>true
def arith(op:BinOp)(k:IntKind)(x y:Int):Option I:=
 match op with
 |.add=>some (.int k (k.wrap (x+y)))
 |.sub=>some (.int k (k.wrap (x-y)))
 |.mul=>some (.int k (k.wrap (x*y)))
 |.quo=>if y=0 then none else some (.int k (k.wrap (x.tdiv y)))
 |.rem=>if y=0 then none else some (.int k (x.tmod y))
 |.and=>some (.int k (k.wrap (BitVec.ofInt k.bits x&&&BitVec.ofInt k.bits y).toNat))
 |.or=>some (.int k (k.wrap (BitVec.ofInt k.bits x|||BitVec.ofInt k.bits y).toNat))
 |.xor=>some (.int k (k.wrap (BitVec.ofInt k.bits x^^^BitVec.ofInt k.bits y).toNat))
 |.andNot=>some (.int k (k.wrap (BitVec.ofInt k.bits x&&& ~~~BitVec.ofInt k.bits y).toNat))
 |.eql=>some (.bool (dQ x y))
 |.neq=>some (.bool (!dQ x y))
 |.lss=>some (.bool (eW x y))
 |.leq=>some (.bool (lv x y))
 |.gtr=>some (.bool (eW y x))
 |.geq=>some (.bool (lv y x))
 |_=>none
def tF(op:BinOp)(k:IntKind)(x y:Int):Option I:=
 if y<0 then none else
 match op with
 |.shl=>some (.int k (k.wrap (x*2^(min y.toNat k.bits))))
 |.shr=>some (.int k (x.fdiv (2^(min y.toNat k.bits))))
 |_=>none
def r0(op:BinOp)(x y:List UInt8):Option I:=
 match op with
 |.add=>if((x.length+y.length:Nat):Int)>IntKind.i64.max then none else some (.str (x++y))
 |.eql=>some (.bool (cW x y))
 |.neq=>some (.bool (!cW x y))
 |.lss=>some (.bool (dA x y))
 |.leq=>some (.bool (!dA y x))
 |.gtr=>some (.bool (dA y x))
 |.geq=>some (.bool (!dA x y))
 |_=>none
def eo(P:Program)(h:J)(op:BinOp)(t:TypeId)(iV iW:Operand)(x y:I):Option I:=
 match x,y with
 |.int k a,.int gn b=>
  match op with
  |.shl|.shr=>tF op k a b
  |_=>if k=gn then arith op k a b else none
 |.str a,.str b=>r0 op a b
 |x,y=>
  match op with
  |.eql=>if oz P t iV iW x y then(match gG P h 100 t x y with
   |some b=>some (.bool b)
   |none=>none) else none
  |.neq=>if oz P t iV iW x y then(match gG P h 100 t x y with
   |some b=>some (.bool (!b))
   |none=>none) else none
  |_=>none
def ez:I->Option Nat
 |.int _ (.ofNat n)=>some n
 |_=>none
def ia(d:Nat):Option I->Option Nat
 |none=>some d
 |some v=>ez v
def bounds(len cap:Nat)(bF ag mx:Option I):Option (Nat×Nat×Nat):=
 match ia cap mx with
 |none=>none
 |some m=>match Nat.ble m cap with
  |false=>none
  |true=>match(match ag,mx with
     |none,none=>some len
     |none,some _=>none
     |some v,_=>ez v) with
   |none=>none
   |some af=>match Nat.ble af m with
    |false=>none
    |true=>match ia 0 bF with
     |none=>none
     |some l=>match Nat.ble l af with
      |false=>none
      |true=>some (l,af,m)
def gp(P:Program)(h:J)(t:TypeId)(x:I)(bF ag mx:Option I):Option I:=
 match P.underlying t,x with
 |some .string,.str s=>match mx with
  |some _=>none
  |none=>match bounds s.length s.length bF ag none with
   |some (l,af,_)=>some (.str (List.take (af-l) (hc l s)))
   |none=>none
 |some (.slice e),.bK=>match cG P e,bounds 0 0 bF ag mx with
  |some _,some _=>some .bK
  |_,_=>none
 |some (.slice e),.slice b off len (.exact cap)=>match cG P e,bounds len cap bF ag mx with
  |some sz,some (l,af,m)=>some (.slice b (if m=l then off else off+l*sz) (af-l) (.exact (m-l)))
  |_,_=>none
 |some (.slice e),.slice b off len (.aE e1)=>match cG P e with
  |some sz=>if sz=e1 then(match mx with
   |none=>match bounds len len bF ag none with
    |some (l,af,_)=>if l=0 then some (.slice b off af (.aE e1)) else if Nat.blt l len then some (.slice b (off+l*sz) (af-l) (.aE e1)) else some (.slice b off 0 .dead)
    |none=>none
   |some _=>match bounds len len bF ag mx with
    |some (l,af,m)=>some (.slice b (if m=l then off else off+l*sz) (af-l) (.exact (m-l)))
    |none=>none) else none
  |none=>none
 |some (.slice e),.slice b off len .dead=>match cG P e,bounds 0 0 bF ag mx with
  |some _,some _=>some (.slice b off 0 .dead)
  |_,_=>none
 |some (.array n e),.ptr b off=>match cG P e,bounds n n bF ag mx with
  |some sz,some (l,af,m)=>some (.slice b (if m=l then off else off+l*sz) (af-l) (.exact (m-l)))
  |_,_=>none
 |some (.pointer arr),.ptr b off=>match P.underlying arr with
  |some (.array n e)=>match cG P e,bounds n n bF ag mx with
   |some sz,some (l,af,m)=>some (.slice b (if m=l then off else off+l*sz) (af-l) (.exact (m-l)))
   |_,_=>none
  |_=>none
 |_,_=>none
def gX(P:Program)(h:J)(t:TypeId)(x:I):Option I:=
 match P.underlying t,x with
 |some .string,.str s=>some (.int .i64 (Int.ofNat s.length))
 |some (.array n _),_=>some (.int .i64 (Int.ofNat n))
 |some (.slice _),.slice _ _ n _=>some (.int .i64 (Int.ofNat n))
 |some (.slice _),.bK=>some (.int .i64 0)
 |some (.map _ _),.gw=>some (.int .i64 0)
 |some (.map _ _),.map r=>match h.get r with
  |some (.map es _)=>some (.int .i64 (Int.ofNat es.length))
  |_=>none
 |some (.pointer a),_=>match P.underlying a with
  |some (.array n _)=>some (.int .i64 (Int.ofNat n))
  |_=>none
 |_,_=>none
def r1(P:Program)(t:TypeId)(x:I):Option I:=
 match P.underlying t,x with
 |some (.array n _),_=>some (.int .i64 (Int.ofNat n))
 |some (.slice _),.slice _ _ _ (.exact n)=>some (.int .i64 (Int.ofNat n))
 |some (.slice _),.bK=>some (.int .i64 0)
 |_,_=>none
def cI:List UInt8->List I
 |[]=>[]
 |b::l=>.int .u8 (Int.ofNat b.toNat)::cI l
def hz(h:J)(size:Nat):I->Option (Nat×List I)
 |.bK=>some (0,[])
 |.str s=>match size with
  |1=>some (s.length,cI s)
  |_=>none
 |.slice b off len .dead=>if len=0 then some (0,[]) else none
 |.slice b off len _=>match loadCells h b off (len*size) with
  |some cs=>some (len,cs)
  |none=>none
 |_=>none
def iD(need bytes:Nat):Bool:=Nat.ble ((4*need+2048)*(bytes+1)) 281474976710656
def l_(P:Program):Option TypeId->Bool
 |none=>true
 |some t=>match P.underlying t with
  |some (.int _)=>false
  |some _=>true
  |none=>false
def ma(h:J)(e bytes size need:Nat)(z:I)(cs:List I)(fz:Nat):Option (I×J):=
 match iD need bytes&&Nat.beq z.cells.length size&&cs.all I.cL with
 |true=>some (.slice h.n 0 need (.aE size),h.push (.cells cs e .aE 0 fz))
 |false=>none
def eA(P:Program)(h:J)(sT:TypeId)(xT:Option TypeId)(s x:I):Option (I×J):=
 match P.underlying sT,l_ P xT with
 |some (.slice e),true=>
  match P.info? e,dV P e with
  |some i,some z=>
   match hz h i.size x with
   |none=>none
   |some (n,cs)=>
    match s with
    |.bK=>match n with
     |0=>some (.bK,h)
     |_=>ma h e i.bytes i.size n z cs 0
    |.slice b off len (.exact cap)=>
     match Nat.ble (len+n) cap with
     |true=>match n with
      |0=>some (.slice b off len (.exact cap),h)
      |_=>match storeCells h b (off+len*i.size) cs with
       |some ai=>some (.slice b off (len+n) (.exact cap),ai)
       |none=>none
     |false=>match loadCells h b off (len*i.size) with
      |some old=>ma h e i.bytes i.size (len+n) z (old++cs) 0
      |none=>none
    |.slice b off len (.aE e1)=>
     match Nat.beq e1 i.size&&Nat.blt 0 e1 with
     |true=>match n with
      |0=>some (s,h)
      |_=>match h.get b with
       |some (.cells old el .aE bF ag)=>
        match Nat.ble (off+(len+n)*e1) old.length with
        |true=>match storeCells h b (off+len*e1) cs with
         |some ai=>some (.slice b off (len+n) (.aE e1),ai)
         |none=>none
        |false=>match Nat.ble ag (off+len*e1)&&Nat.beq el e,loadCells h b off (len*e1) with
         |true,some o=>ma (h.set b none) e i.bytes i.size (len+n) z (o++cs) (ag-off)
         |_,_=>none
       |_=>none
     |false=>none
    |_=>none
  |_,_=>none
 |_,_=>none
def r2(P:Program)(h:J)(wD:TypeId)(d s:I):Option (I×J):=
 match P.underlying wD with
 |some (.slice e)=>match cG P e with
  |some sz=>match hz h sz s with
   |some (n,cs)=>match d with
    |.bK=>some (.int .i64 0,h)
    |.slice b off len _=>
     let m:=Nat.min n len
     if m=0 then some (.int .i64 0,h) else
     match takeN (m*sz) cs with
     |some bq=>match storeCells h b off bq with
      |some ai=>some (.int .i64 (Int.ofNat m),ai)
      |none=>none
     |none=>none
    |_=>none
   |none=>none
  |none=>none
 |_=>none
def wE(P:Program)(h:J)(t:TypeId)(x:I):Option (I×J):=
 match P.underlying t,x with
 |some (.map _ _),.gw=>some (.aF [],h)
 |some (.slice _),.bK=>some (.aF [],h)
 |some (.map _ _),.map r=>match h.get r with
  |some (.map _ c)=>some (.aF [],h.set r (some (.map [] c)))
  |_=>none
 |some (.slice e),.slice b off n _=>if n=0 then some (.aF [],h) else
  match dV P e with
  |some z=>match storeCells h b off (fc n z.cells) with
   |some ai=>some (.aF [],ai)
   |none=>none
  |none=>none
 |_,_=>none
def ji:I->I->Option I
 |.int k x,.int gn y=>if k=gn then some (.int k (if eW y x then y else x)) else none
 |_,_=>none
def jK:I->I->Option I
 |.int k x,.int gn y=>if k=gn then some (.int k (if eW x y then y else x)) else none
 |_,_=>none
def fA(f:I->I->Option I):I->List I->Option I
 |x,[]=>some x
 |x,y::l=>match f x y with
  |some z=>fA f z l
  |none=>none
def kK:List I->Option (List UInt8)
 |[]=>some []
 |.int .u8 (.ofNat n)::l=>match Nat.blt n 256,kK l with
  |true,some r=>some (UInt8.ofNat n::r)
  |_,_=>none
 |_=>none
def nJ(P:Program)(h:J)(pT:TypeId)(p n:I):Option (I×J):=
 match p,ez n with
 |.d_,some 0=>some (.str [],h)
 |.ptr b off,some n=>if n=0 then some (.str [],h) else
  match P.underlying pT,h.get b with
  |some (.pointer u),some (.cells cs el k bF ag)=>
   if P.underlyingId el=P.underlyingId u&&cG P el=some 1&&Nat.ble n 281474976710656&&decide (k≠ .ro) then
    (match takeN n (hc off cs) with
    |some r=>match kK r with
     |some bs=>some (.str bs,h.set b (some (.cells cs el .fz bF ag)))
     |none=>none
    |none=>none) else none
  |_,_=>none
 |_,_=>none
def mU(P:Program)(cq:TypeId)(k:I):Bool:=
 match P.underlying cq with
 |some (.int _)=>match k with
  |.int _ _=>true
  |_=>false
 |some .string=>match k with
  |.str _=>true
  |_=>false
 |some .bool=>match k with
  |.bool _=>true
  |_=>false
 |_=>false
def wF(P:Program)(cs:List I):List Field->Bool
 |[]=>true
 |f::aP=>match kJ P f.type cs f.offset with
  |some a=>match mU P f.type a with
   |true=>wF P cs aP
   |false=>false
  |none=>false
def wG(P:Program)(e:TypeId)(sz:Nat)(cs:List I):Nat->Nat->Bool
 |0,_=>true
 |n+1,i=>match kJ P e cs (i*sz) with
  |some a=>match mU P e a with
   |true=>wG P e sz cs n (i+1)
   |false=>false
  |none=>false
def mb(P:Program)(cq:TypeId)(k:I):Bool:=
 match k with
 |.agg cs=>match P.underlying cq with
  |some (.struct aP)=>wF P cs aP.toList
  |some (.array n e)=>match cG P e with
   |some sz=>wG P e sz cs n 0
   |none=>false
  |_=>false
 |k=>mU P cq k
def nK:I->I->Option Bool
 |.int j a,.int k b=>if j=k then some (dQ a b) else none
 |.str a,.str b=>some (cW a b)
 |.bool a,.bool b=>some (a==b)
 |_,_=>none
def tG:List I->List I->Bool
 |[],[]=>true
 |a::l,b::m=>match nK a b with
  |some true=>tG l m
  |_=>false
 |_,_=>false
def nL(k x:I):Bool:=match k,x with
 |.agg a,.agg b=>tG a b
 |.agg _,_=>false
 |_,_=>true
def r3(P:Program)(h:J)(cq:TypeId)(k x:I):Option Bool:=match k with
 |.agg cs=>gG P h 8 cq (.agg cs) x
 |k=>nK k x
def iE(P:Program)(h:J)(cq:TypeId)(k:I):List df->Nat->Option (Option (Nat×I))
 |[],_=>some none
 |e::es,i=>match r3 P h cq k e.key with
  |some true=>some (some (i,e.val))
  |some false=>iE P h cq k es (i+1)
  |none=>none
def p3(i:Nat)(es:List df):I:=match nth i es with
 |some e=>e.key
 |none=>.bad
def nM(v:I)(key:I):Nat->List df->List df
 |_,[]=>[]
 |0,e::es=>⟨key,v,e.born⟩::es
 |n+1,e::es=>e::nM v key n es
def p4(P:Program)(eX:TypeId)(ok:Bool):Option (Nat×I)->Option I
 |some (_,v)=>some (if ok then .aF [v,.bool true] else v)
 |none=>match dV P eX with
  |some z=>some (if ok then .aF [z,.bool false] else z)
  |none=>none
def gq(P:Program)(h:J)(t:TypeId)(m k:I)(ok:Bool):Option I:=
 match P.underlying t with
 |some (.map cq eX)=>match mb P cq k with
  |true=>match m with
   |.gw=>p4 P eX ok none
   |.map r=>match h.get r with
    |some (.map es _)=>match iE P h cq k es 0 with
     |some r=>p4 P eX ok r
     |none=>none
    |_=>none
   |_=>none
  |false=>none
 |_=>none
def jj(P:Program)(h:J)(t:TypeId)(m k v:I):Option J:=
 match P.underlying t with
 |some (.map cq _)=>match mb P cq k with
  |true=>match m with
   |.map r=>match h.get r with
    |some (.map es clock)=>match iE P h cq k es 0 with
     |some (some (i,_))=>match nL k (p3 i es) with
      |true=>some (h.set r (some (.map (nM v k i es) clock)))
      |false=>none
     |some none=>some (h.set r (some (.map (es++[⟨k,v,clock⟩]) (clock+1))))
     |none=>none
    |_=>none
   |_=>none
  |false=>none
 |_=>none
def wH(P:Program)(h:J)(t:TypeId)(m k:I):Option (I×J):=
 match P.underlying t with
 |some (.map cq eX)=>match mb P cq k with
  |true=>match m with
   |.map r=>match h.get r with
    |some (.map es clock)=>match iE P h cq k es 0 with
     |some (some (i,v))=>match nth i es with
      |some e=>match nL k e.key with
       |true=>some (.aF [v,.int .i64 (Int.ofNat e.born)],h.set r (some (.map (nM v k i es) clock)))
       |false=>none
      |none=>none
     |some none=>match dV P eX with
      |some z=>some (.aF [z,.int .i64 (Int.ofNat clock)],h.set r (some (.map (es++[⟨k,z,clock⟩]) (clock+1))))
      |none=>none
     |none=>none
    |_=>none
   |_=>none
  |false=>none
 |_=>none
def tH(born:Int):List df->Nat->Option (Nat×df)
 |[],_=>none
 |e::es,i=>match dQ (Int.ofNat e.born) born with
  |true=>some (i,e)
  |false=>tH born es (i+1)
def wI(h:J)(m s v:I):Option J:=
 match m,s with
 |.map r,.int _ born=>match h.get r with
  |some (.map es clock)=>match tH born es 0 with
   |some (i,e)=>some (h.set r (some (.map (nM v e.key i es) clock)))
   |none=>none
  |_=>none
 |_,_=>none
def tI:Nat->List df->List df
 |_,[]=>[]
 |0,_::es=>es
 |n+1,e::es=>e::tI n es
def p5(P:Program)(h:J)(t:TypeId)(m k:I):Option (I×J):=
 match P.underlying t with
 |some (.map cq _)=>match mb P cq k with
  |true=>match m with
   |.gw=>some (.aF [],h)
   |.map r=>match h.get r with
    |some (.map es clock)=>match iE P h cq k es 0 with
     |some (some (i,_))=>some (.aF [],h.set r (some (.map (tI i es) clock)))
     |some none=>some (.aF [],h.set r (some (.map es clock)))
     |none=>none
    |_=>none
   |_=>none
  |false=>none
 |_=>none
def zf(s:List UInt8):Nat×Nat:=Utf8.decode ⟨s.toArray⟩ 0
def wJ(h:J)(it:I)(isStr:Bool):Option (I×J):=
 match it with
 |.ptr r 0=>match h.get r,isStr with
  |some (.nI s pos),true=>
   (match s with
   |[]=>some (.aF [.bool false],h)
   |s=>let(c,w):=zf s
    some (.aF [.bool true,.int .i64 (Int.ofNat pos),.int .i32 (Int.ofNat c)],h.set r (some (.nI (hc w s) (pos+w)))))
  |some (.mapIter none _ _ _),false=>some (.aF [.bool false],h)
  |_,_=>none
 |_=>none
def p6(b:Nat):List df->Option df
 |[]=>none
 |e::l=>match Nat.beq e.born b with
  |true=>some e
  |false=>p6 b l
def tJ:List Nat->Option Nat
 |[]=>none
 |[b]=>some b
 |_::b::l=>tJ (b::l)
def p7(h:J)(it:I):Option I:=
 match it with
 |.ptr r 0=>match h.get r with
  |some (.mapIter (some m) _ seen last)=>match h.get m,tJ seen with
   |some (.map es clock),some b=>match Nat.beq clock last with
    |true=>match p6 b es with
     |some e=>some (.aF [e.key,e.val])
     |none=>none
    |false=>none
   |_,_=>none
  |_=>none
 |_=>none
inductive aJ where
 |none|act (v:I)|done (v:I)
inductive bh where
 |nrm|exit (id:Nat)|ret|goto (l:Nat)|bm (v:I)
inductive hP where
 |ok (e:bh) (r:aC) (d:List bo) (q:aJ) (h:J)
 |fail (hy:String)
inductive cM where
 |fn (f:Nat)|bY (l:Nat)
abbrev cJ:=cM->List I->J->bL
inductive Acc where
 |env (j:Nat)|iF (p:gF)|val (v:I)
def b9(m:Nat)(env:List I)(r:aC):Acc->I
 |.env j=>(nth (m-1-j) env).getD .bad
 |.iF p=>r.get p
 |.val v=>v
def gx(t:Nat):List (Nat×Acc)->Option Acc
 |[]=>none
 |(u,a)::l=>match Nat.beq t u with
  |true=>some a
  |false=>gx t l
def bM(P:Program)(need:Nat)(loc:List (Nat×Acc)):Operand->Acc
 |.tmp t=>match gx t loc with
  |some a=>a
  |none=>match Nat.testBit need t with
   |true=>.iF (e2 t)
   |false=>.val .bad
 |.const v=>.val (l9 v)
 |.global g=>match Nat.blt g P.globals.size with
  |true=>.val (.ptr g 0)
  |false=>.val .bad
 |.func f=>.val (.fn f [] [])
def p8(f:I)(args:List I)(h:J):h9:=
 match f with
 |.fn g first caps=>.call g (first++args++caps) h
 |.bY l=>.bY l args h
 |_=>.fail ""
def eH(h:J)(hy:String):Option I->h9
 |some v=>.val v h
 |none=>.fail hy
def jL(hy:String):Option (I×J)->h9
 |some (v,h)=>.val v h
 |none=>.fail hy
def nN(hy:String):Option J->h9
 |some h=>.val (.aF []) h
 |none=>.fail hy
def kindName:I->String
 |.bad=> "bad" |.bool _=> "bool" |.int _ n=> "int" ++toString n|.str s=> "str" ++toString s.length|.d_=> "nilP" |.ptr b o=> "ptr" ++toString b++ "+" ++toString o|.bK=> "nilS" |.slice b o n c=> "slice" ++toString b++ "+" ++toString o++ "," ++toString n++(match c with|.exact k=> "x" ++toString k|.aE _=> "o" |.dead=> "d")
 |.gw=> "nilM" |.map _=> "map" |.h8=> "nilF" |.fn f _ _=> "fn" ++toString f|.bY _=> "yld" |.dY=> "nilI" |.iface t _=> "iface" ++toString t|.agg l=> "agg" ++toString l.length|.aF l=> "tup" ++toString l.length
def wK(P:Program)(t:TypeId)(name:String):Option Nat:=
 match P.info? t with
 |some i=>match i.methods.find? (·.name==name) with
  |some m=>match m.path.isEmpty,m.func,P.underlying t with
   |true,some (f,true),some (.pointer _)=>some f
   |true,some (f,false),some (.pointer _)=>none
   |true,some (f,false),some _=>some f
   |_,_,_=>none
  |none=>none
 |none=>none
def hd(P:Program)(b:Builtin)(ats:Array TypeId)(vs:List I)(h:J):h9:=
 match b with
 |.recover=>.p2
 |.min=>match vs with
  |x::l=>eH h "" (fA ji x l)
  |[]=>.fail ""
 |.max=>match vs with
  |x::l=>eH h "" (fA jK x l)
  |[]=>.fail ""
 |b=>match ats[0]?,vs with
  |some t,[x]=>match b with
   |.len=>eH h "" (gX P h t x)
   |.cap=>eH h "" (r1 P t x)
   |.clear=>jL "" (wE P h t x)
   |.unsafeSliceData=>match x with
    |.bK=>.val .d_ h
    |.slice b off n (.exact c)=>if c=0 then .fail "" else .val (.ptr b off) h
    |.slice b off n (.aE _)=>if n=0 then .fail "" else .val (.ptr b off) h
    |_=>.fail ""
   |_=>.fail ""
  |some t,[x,y]=>match b with
   |.append=>jL "" (eA P h t ats[1]? x y)
   |.copy=>jL "" (r2 P h t x y)
   |.delete=>jL "" (p5 P h t x y)
   |.unsafeString=>jL "" (nJ P h t x y)
   |_=>.fail ""
  |_,_=>.fail ""
def hQ(P:Program)(src dst:TypeId)(x:I)(h:J):h9:=
 match P.underlying src,P.underlying dst,x with
 |some (.int _),some (.int k),.int _ n=>.val (.int k (k.wrap n)) h
 |some (.int _),some .string,.int _ n=>.val (.str (Utf8.encode n).data.toList) h
 |some .string,some .string,.str s=>.val (.str s) h
 |some .string,some (.slice e),.str s=>match P.underlying e with
  |some (.int .u8)=>.val (.slice h.n 0 s.length (.aE 1)) (h.push (.cells (cI s) e .aE 0 0))
  |_=>.fail ""
 |some (.slice e),some .string,v=>match P.underlying e,v with
  |some (.int .u8),.bK=>.val (.str []) h
  |some (.int .u8),.slice b off n .dead=>if n=0 then .val (.str []) h else .fail ""
  |some (.int .u8),.slice b off n _=>match loadCells h b off n with
   |some cs=>match kK cs with
    |some bs=>.val (.str bs) h
    |none=>.fail ""
   |none=>.fail ""
  |_,_=>.fail ""
 |some (.pointer u),some .unsafePointer,.ptr b off=>match h.get b,cG P u with
  |some (.cells cs _ _ _ _),some (_+1)=>if Nat.blt off cs.length then .val (.ptr b off) h else .fail ""
  |_,_=>.fail ""
 |some .unsafePointer,some (.pointer u),.ptr b off=>match h.get b,cG P u with
  |some (.cells cs el .own _ _),some (_+1)=>if liesAt P P.depth el (cs.length/P.cellsOf el) off u 1 then .val (.ptr b off) h else .fail ""
  |_,_=>.fail ""
 |_,_,v=>.fail ""
def bV(P:Program)(o:Oper)(g:Operand->I)(h:J):h9:=
 match o.op with
 |.move x|.assign x=>.val (g x) h
 |.pick c a b=>match g c with
  |.bool true=>.val (g a) h
  |.bool false=>.val (g b) h
  |_=>.fail ""
 |.alloc e=>match dV P e with
  |some z=>match newRow h e z.cells with
   |some (b,ai)=>.val (.ptr b 0) ai
   |none=>.fail ""
  |none=>.fail ""
 |.box e x=>match newRow h e (g x).cells with
  |some (b,ai)=>.val (.ptr b 0) ai
  |none=>.fail ""
 |.build t parts=>match dV P t with
  |some z=>match P.underlying t with
   |some (.struct aP)=>match aP.toList.all (λf=>(cG P f.type).isSome),h_ (λi=>(aP[i]?).map λf=>(f.offset,P.cellsOf f.type)) z.cells (parts.toList.map λp=>(p.1,g p.2)) with
    |true,some cs=>.val (.agg cs) h
    |_,_=>.fail ""
   |some (.array _ e)=>match cG P e with
    |some sz=>match h_ (λi=>some (i*sz,sz)) z.cells (parts.toList.map λp=>(p.1,g p.2)) with
     |some cs=>.val (.agg cs) h
     |none=>.fail ""
    |none=>.fail ""
   |_=>.fail ""
  |none=>.fail ""
 |.buildSlice t len parts=>match P.underlying t with
  |some (.slice e)=>match cG P e,dV P e with
   |some sz,some z=>match Nat.ble (len*sz) 16777216&&Nat.beq z.cells.length sz,h_ (λi=>some (i*sz,sz)) (if len*sz=0 then[] else fc len z.cells) (parts.toList.map λp=>(p.1,g p.2)) with
    |true,some cs=>match newRow h e cs with
     |some (b,ai)=>.val (.slice b 0 len (.exact len)) ai
     |none=>.fail ""
    |_,_=>.fail ""
   |_,_=>.fail ""
  |_=>.fail ""
 |.insert t m k v=>nN "" (jj P h t (g m) (g k) (g v))
 |.load t a=>match g a with
  |.ptr b off=>match jJ P t,cG P t with
   |some true,some n=>match loadCells h b off n with
    |some cs=>.val (.agg cs) h
    |none=>.fail ""
   |some false,_=>eH h "" (aO h b off)
   |_,_=>.fail ""
  |v=>.fail ""
 |.store t a v=>match g a with
  |.ptr b off=>match g v,cG P t with
   |.bad,_=>.fail ""
   |v,some n=>match Nat.beq v.cells.length n with
    |true=>nN "" (storeCells h b off v.cells)
    |false=>.fail ""
   |_,none=>.fail ""
  |_=>.fail ""
 |.ready _|.waits _=>.fail ""
 |.nilCheck x=>match g x with
  |.ptr b o=>.val (.ptr b o) h
  |.slice b o n c=>.val (.slice b o n c) h
  |.fn f a b=>.val (.fn f a b) h
  |.iface t v=>.val (.iface t v) h
  |_=>.fail ""
 |.binOp op t x y _=>eH h "" (eo P h op t x y (g x) (g y))
 |.unOp op _ x=>match op,g x with
  |.not,.bool b=>.val (.bool (!b)) h
  |.neg,.int k n=>.val (.int k (k.wrap (0-n))) h
  |.xor,.int k n=>eH h "" (arith .xor k (if k.signed then-1 else k.max) n)
  |_,_=>.fail ""
 |.convert src dst x=>hQ P src dst (g x) h
 |.sliceToArrayPointer .. =>.fail ""
 |.makeInterface t x=>match P.underlying t with
  |some (.interface _)=>.fail ""
  |some _=>.val (.iface t (g x)) h
  |none=>.fail ""
 |.makeFunc fn first caps=>match fn with
  |.func f=>.val (.fn f (first.toList.map g) (caps.toList.map g)) h
  |_=>.fail ""
 |.makeMap t r=>match r with
  |none=>.val (.map h.n) (h.push (.map [] 0))
  |some x=>match P.underlying t,g x with
   |some (.map _ _),.int _ _=>.val (.map h.n) (h.push (.map [] 0))
   |_,_=>.fail ""
 |.makeChan .. =>.fail ""
 |.makeSlice t l c=>match P.underlying t,ez (g l),ez (g c) with
  |some (.slice e),some l,some c=>match P.info? e,dV P e with
   |some i,some z=>if l<=c&&Nat.ble (c*(i.bytes+1)) 1099511627776&&Nat.beq z.cells.length i.size then(match newRow h e (if c*i.size=0 then[] else fc c z.cells) with
    |some (b,ai)=>.val (.slice b 0 l (.exact c)) ai
    |none=>.fail "") else .fail ""
   |_,_=>.fail ""
  |_,_,_=>.fail ""
 |.slice t x bF ag mx=>eH h "" (gp P h t (g x) (bF.map g) (ag.map g) (mx.map g))
 |.fieldAddr s x f=>match P.underlying s,g x with
  |some (.struct aP),.ptr b off=>match aP[f]? with
   |some fd=>match cG P fd.type with
    |some 0=>.fail ""
    |some _=>.val (.ptr b (off+fd.offset)) h
    |none=>.fail ""
   |none=>.fail ""
  |_,v=>.fail ""
 |.field t x f=>match P.underlying t,g x with
  |some (.struct aP),.agg cs=>match aP[f]? with
   |some fd=>eH h "" (kJ P fd.type cs fd.offset)
   |none=>.fail ""
  |_,_=>.fail ""
 |.indexAddr t x i=>match P.underlying t,g x,ez (g i) with
  |some (.array n e),.ptr b off,some i=>match cG P e with
   |some sz=>if i<n then .val (.ptr b (off+i*sz)) h else .fail ""
   |none=>.fail ""
  |some (.slice e),.slice b off n c,some i=>match cG P e with
   |some sz=>if i<n then .val (.ptr b (off+i*sz)) h else .fail ""
   |none=>.fail ""
  |_,v,w=>.fail ""
 |.index t x i=>match P.underlying t,g x,ez (g i) with
  |some (.array n e),.agg cs,some i=>match cG P e with
   |some sz=>if i<n then eH h "" (kJ P e cs (i*sz)) else .fail ""
   |none=>.fail ""
  |some .string,.str s,some i=>match nth i s with
   |some b=>.val (.int .u8 (Int.ofNat b.toNat)) h
   |none=>.fail ""
  |_,_,_=>.fail ""
 |.lookup t x i ok=>eH h "" (gq P h t (g x) (g i) ok)
 |.mapUpdate t m k v=>nN "" (jj P h t (g m) (g k) (g v))
 |.mapEntry t m k=>jL "" (wH P h t (g m) (g k))
 |.entryStore t m s v=>nN "" (wI h (g m) (g s) (g v))
 |.range t x=>match P.underlying t,g x with
  |some .string,.str s=>.val (.ptr h.n 0) (h.push (.nI s 0))
  |some (.map _ _),.gw=>.val (.ptr h.n 0) (h.push (.mapIter none 0 [] 0))
  |some (.map _ _),.map m=>match h.get m with
   |some (.map _ c)=>.val (.ptr h.n 0) (h.push (.mapIter (some m) c [] c))
   |_=>.fail ""
  |_,_=>.fail ""
 |.next it isStr=>jL "" (wJ h (g it) isStr)
 |.entry it=>eH h "" (p7 h (g it))
 |.typeAssert x xT as ok=>match P.underlying as,g x with
  |some (.interface _),_=>.fail ""
  |some _,.dY=>if ok then(match dV P as with|some z=>.val (.aF [z,.bool false]) h|none=>.fail "") else .fail ""
  |some _,.iface t v=>if t=as then .val (if ok then .aF [v,.bool true] else v) h else
   if ok then(match dV P as with|some z=>.val (.aF [z,.bool false]) h|none=>.fail "") else .fail ""
  |_,_=>.fail ""
 |.extract t i=>match g t with
  |.aF vs=>eH h "" (nth i vs)
  |_=>.fail ""
 |.call c=>match c.callee with
  |.value f=>p8 (g f) (c.args.toList.map g) h
  |.invoke r name=>match g r with
   |.iface t v=>match wK P t name with
    |some f=>.call f (v::c.args.toList.map g) h
    |none=>.fail ""
   |_=>.fail ""
  |.builtin b=>hd P b c.argTypes (c.args.toList.map g) h
 |.go _=>.fail ""
 |.defer c=>match c.callee with
  |.value f=>match g f with
   |.fn k first caps=>.lu (.call k (first++c.args.toList.map g++caps))
   |_=>.fail ""
  |_=>.fail ""
 |.panic x=>match g x with
  |.iface t v=>.bm (.iface t v) h
  |_=>.fail ""
 |.send .. |.recv .. |.select .. =>.fail ""
structure Step where
 guard:Option (Acc×Bool)
 o:Oper
 loc:List (Nat×Acc)
 m:Nat
structure zg where
 steps:List Step
 loc:List (Nat×Acc)
def hg(P:Program)(need:Nat)(ops:Array Oper)(loc:List (Nat×Acc))(o:Oper):Option (Acc×Bool):=
 match o.guard with
 |none=>none
 |some (j,b)=>match(ops[j]?).bind (·.dst) with
  |some t=>some (bM P need loc (.tmp t),b)
  |none=>some (.val .bad,b)
def aliasOf(o:Oper):Option (Nat×Operand):=
 match o.guard,o.dst,o.op with
 |none,some t,.move x=>some (t,x)
 |none,some t,.assign x=>some (t,x)
 |_,_,_=>none
def fB(o:Oper)(m:Nat)(loc:List (Nat×Acc)):List (Nat×Acc):=
 match o.dst with
 |some t=>(t,.env m)::loc
 |none=>loc
def r4(P:Program)(need:Nat)(ops:Array Oper):List Oper->List (Nat×Acc)->List Step->Nat->zg
 |[],loc,st,_=>⟨st.reverse,loc⟩
 |o::rest,loc,st,m=>
  match aliasOf o with
  |some (t,x)=>r4 P need ops rest ((t,bM P need loc x)::loc) st m
  |none=>r4 P need ops rest (fB o m loc) (⟨hg P need ops loc o,o,loc,m⟩::st) (m+1)
def j_(P:Program)(need:Nat)(ops:Array Oper):zg:=r4 P need ops ops.toList [] [] 0
inductive kL where
 |ok (env:List I) (d:List bo) (q:aJ) (h:J)
 |bm (v:I) (d:List bo) (q:aJ) (h:J)
 |fail (hy:String)
inductive tK where
 |ok (v:I) (d:List bo) (q:aJ) (h:J)
 |bm (v:I) (d:List bo) (q:aJ) (h:J)
 |fail (hy:String)
def c8:Option (I×Bool)->Option Bool
 |none=>some true
 |some (.bool c,b)=>some (c==b)
 |some (.aF [],_)=>some false
 |_=>none
def tL(d:List bo)(q:aJ):bL->tK
 |.ret v h=>.ok v d q h
 |.bm v h=>.bm v d q h
 |.fail w=>.fail w
def c5(P:Program)(inR:Bool)(call:cM->List I->J->bL)(gd:Option (I×Bool))(o:Oper)(g:Operand->I)(d:List bo)(q:aJ)(h:J):tK:=
 match c8 gd with
 |none=>.fail ""
 |some false=>.ok (.aF []) d q h
 |some true=>
  match bV P o g h with
  |.val v ai=>.ok v d q ai
  |.bm v ai=>.bm v d q ai
  |.call f args ai=>tL d q (call (.fn f) args ai)
  |.bY l args ai=>tL d q (call (.bY l) args ai)
  |.lu x=>if inR then .fail "" else .ok (.aF []) (x::d) q h
  |.p2=>if inR then .fail "" else match q with
   |.none=>.ok .dY d .none h
   |.done v=>.ok .dY d (.done v) h
   |.act v=>.ok v d (.done v) h
  |.fail w=>.fail (w++ " at " ++o.pos)
def gH(P:Program)(need:Nat)(inR:Bool)(call:cM->List I->J->bL)(r:aC):List Step->List I->List bo->aJ->J->kL
 |[],env,d,q,h=>.ok env d q h
 |s::rest,env,d,q,h=>
  match c5 P inR call (match s.guard with|none=>none|some (a,b)=>some (b9 s.m env r a,b)) s.o (λx=>b9 s.m env r (bM P need s.loc x)) d q h with
  |.ok v d' aR ai=>gH P need inR call r rest (v::env) d' aR ai
  |.bm v d' aR ai=>.bm v d' aR ai
  |.fail w=>.fail w
def cy.beq:cy->cy->Bool
 |.exact a,.exact b=>Nat.beq a b
 |.aE a,.aE b=>Nat.beq a b
 |.dead,.dead=>true
 |_,_=>false
mutual
def I.beq:I->I->Bool
 |.bool a,.bool b=>a==b
 |.int j a,.int k b=>decide (j=k)&&dQ a b
 |.str a,.str b=>cW a b
 |.d_,.d_=>true
 |.ptr a i,.ptr b j=>Nat.beq a b&&Nat.beq i j
 |.bK,.bK=>true
 |.slice a i n c,.slice b j m d=>Nat.beq a b&&Nat.beq i j&&Nat.beq n m&&c.beq d
 |.gw,.gw=>true
 |.map a,.map b=>Nat.beq a b
 |.h8,.h8=>true
 |.fn f a b,.fn g c d=>Nat.beq f g&&I.lx a c&&I.lx b d
 |.bY a,.bY b=>Nat.beq a b
 |.dY,.dY=>true
 |.iface t v,.iface u w=>Nat.beq t u&&I.beq v w
 |.agg a,.agg b=>I.lx a b
 |.aF a,.aF b=>I.lx a b
 |_,_=>false
def I.lx:List I->List I->Bool
 |[],[]=>true
 |a::as,b::bs=>I.beq a b&&I.lx as bs
 |_,_=>false
end
inductive Jg where
 |pure|alloc|dk
def kindOf(P:Program):Op->Jg
 |.move _|.assign _|.pick .. |.build .. |.load .. |.nilCheck _|.binOp .. |.unOp .. |.makeInterface .. |.makeFunc .. |.slice .. |.fieldAddr .. |.field .. |.indexAddr .. |.index .. |.lookup .. |.typeAssert .. |.extract .. =>.pure
 |.convert _ d _=>match P.underlying d with
  |some (.slice _)=>.dk
  |_=>.pure
 |.call c=>match c.callee with
  |.builtin .len|.builtin .cap|.builtin .min|.builtin .max|.builtin .unsafeSliceData=>.pure
  |_=>.dk
 |.alloc _|.box .. |.buildSlice .. |.makeSlice .. =>.alloc
 |.makeMap _ none=>.alloc
 |_=>.dk
def gI(P:Program)(o:Op)(g:Operand->I)(b:Nat):Option (I×b2):=
 match o with
 |.alloc e=>match dV P e with
  |some z=>match z.cells.all I.cL with
   |true=>some (.ptr b 0,.cells z.cells e .own 0 0)
   |false=>none
  |none=>none
 |.box e x=>match(g x).cells.all I.cL with
  |true=>some (.ptr b 0,.cells (g x).cells e .own 0 0)
  |false=>none
 |.buildSlice t len parts=>match P.underlying t with
  |some (.slice e)=>match cG P e,dV P e with
   |some sz,some z=>match Nat.ble (len*sz) 16777216&&Nat.beq z.cells.length sz,h_ (λi=>some (i*sz,sz)) (if len*sz=0 then[] else fc len z.cells) (parts.toList.map λp=>(p.1,g p.2)) with
    |true,some cs=>match cs.all I.cL with
     |true=>some (.slice b 0 len (.exact len),.cells cs e .own 0 0)
     |false=>none
    |_,_=>none
   |_,_=>none
  |_=>none
 |.makeSlice t l c=>match P.underlying t,ez (g l),ez (g c) with
  |some (.slice e),some l,some c=>match P.info? e,dV P e with
   |some i,some z=>match decide (l<=c)&&Nat.ble (c*(i.bytes+1)) 1099511627776&&Nat.beq z.cells.length i.size,(if c*i.size=0 then[] else fc c z.cells) with
    |true,cs=>match cs.all I.cL with
     |true=>some (.slice b 0 l (.exact c),.cells cs e .own 0 0)
     |false=>none
    |_,_=>none
   |_,_=>none
  |_,_,_=>none
 |.makeMap _ none=>some (.map b,.map [] 0)
 |_=>none
structure DStep where
 i:Nat
 o:Oper
 dF:Nat
 loc:List (Nat×Acc)
def tM(fe:List Nat)(n:Nat)(o:Oper):Nat:=
 o.after.foldl (λs e=>match Region.binds .any e with
  |true=>s|||1<<<e.on|||(nth (n-1-e.on) fe).getD 0
  |false=>s) 0
def dR:List Oper->Nat->List (Nat×Acc)->List Nat->List DStep
 |[],_,_,_=>[]
 |o::l,n,loc,fe=>
  let m:=tM fe n o
  ⟨n,o,m,loc⟩::dR l (n+1) (fB o n loc) (m::fe)
def hh:List Oper->Nat->List (Nat×Acc)->List (Nat×Acc)
 |[],_,loc=>loc
 |o::l,n,loc=>hh l (n+1) (fB o n loc)
def eg(P:Program)(need:Nat)(ops:Array Oper)(r:aC)(n:Nat)(env:List I)(s:DStep):Option (I×Bool):=
 match hg P need ops s.loc s.o with
 |none=>none
 |some (a,b)=>some (b9 n env r a,b)
inductive zh where
 |ok (env:List I) (d:List bo) (q:aJ) (h:J) (aV:List (Nat×Nat×J))
 |bm (v:I) (env:List I) (d:List bo) (q:aJ) (h:J) (aV:List (Nat×Nat×J))
 |fail (hy:String)
def e4(P:Program)(need:Nat)(inR:Bool)(call:cM->List I->J->bL)(ops:Array Oper)(r:aC)(bW:Nat):List DStep->List I->List bo->aJ->J->List (Nat×Nat×J)->zh
 |[],env,d,q,h,aV=>.ok env d q h aV
 |s::rest,env,d,q,h,aV=>
  let gd:=eg P need ops r s.i env s
  let g:=λx=>b9 s.i env r (bM P need s.loc x)
  match kindOf P s.o.op with
  |.alloc=>match c8 gd with
   |none=>.fail ""
   |some false=>e4 P need inR call ops r bW rest (.aF []::env) d q h aV
   |some true=>match gI P s.o.op g (bW+s.i) with
    |some (v,o)=>e4 P need inR call ops r bW rest (v::env) d q (h.set (bW+s.i) (some o)) aV
    |none=>.fail ""
  |.pure=>match c5 P inR call gd s.o g d q h with
   |.ok v _ _ _=>e4 P need inR call ops r bW rest (v::env) d q h aV
   |.bm _ _ _ _=>.fail ""
   |.fail w=>.fail w
  |.dk=>
   match(match aV with|[]=>true|(e,_,_)::_=>Nat.testBit s.dF e) with
   |false=>.fail ""
   |true=>match c5 P inR call gd s.o g d q h with
    |.ok v d' aR ai=>e4 P need inR call ops r bW rest (v::env) d' aR ai ((s.i,s.dF,h)::aV)
    |.bm v d' aR ai=>match rest.all (λaD=>Nat.testBit aD.dF s.i) with
     |true=>.bm v env d' aR ai ((s.i,s.dF,h)::aV)
     |false=>.fail ""
    |.fail w=>.fail w
def fC(P:Program)(need:Nat)(ops:Array Oper)(r:aC)(n:Nat)(env:List I)(s:DStep)(v:I)(h:J):Bool:=
 match c8 (eg P need ops r n env s) with
 |none=>false
 |some false=>true
 |some true=>match bV P s.o (λx=>b9 n env r (bM P need s.loc x)) h with
  |.val v' _=>I.beq v' v
  |_=>false
def kM(P:Program)(need:Nat)(ops:Array Oper)(r:aC)(n:Nat)(env:List I)(s:DStep)(nx:Option Nat)(h:J):J:=match nx,s.o.op with
 |some e,.convert _ _ x=>match bM P need s.loc x with
  |.env j=>match Nat.blt e j&&Nat.testBit s.dF j,nth j (dR ops.toList 0 [] []) with
   |true,some aD=>match aD.o.op,b9 n env r (.env j),c8 (eg P need ops r n env aD) with
    |.makeSlice t l c,.slice b _ _ _,some true=>match gI P (.makeSlice t l c) (λy=>b9 n env r (bM P need aD.loc y)) b with
     |some (_,bX)=>h.set b (some bX)
     |none=>h
    |_,_,_=>h
   |_,_=>h
  |_=>h
 |_,_=>h
def jk(P:Program)(need:Nat)(ops:Array Oper)(r:aC)(n:Nat)(env:List I)(s:DStep)(v:I):Option Nat->J->List (Nat×Nat×J)->Bool
 |nx,h,aV=>
  (match(match nx with|none=>false|some e=>Nat.testBit s.dF e)||(match aV with|[]=>false|(_,m,_)::_=>Nat.testBit m s.i) with
   |true=>true
   |false=>fC P need ops r n env s v h||fC P need ops r n env s v (kM P need ops r n env s nx h))&&
  (match aV with
   |[]=>true
   |(e,_,ai)::rest=>jk P need ops r n env s v (some e) ai rest)
def jM(P:Program)(need:Nat)(ops:Array Oper)(r:aC)(n:Nat)(env:List I)(last:Option Nat)(h:J)(aV:List (Nat×Nat×J)):List DStep->Bool
 |[]=>true
 |s::rest=>(match Nat.blt s.i n,kindOf P s.o.op with
   |true,.pure=>jk P need ops r n env s ((nth (n-1-s.i) env).getD .bad) last h aV
   |_,_=>true)&&jM P need ops r n env last h aV rest
def p9(P:Program)(need:Nat)(inR:Bool)(call:cM->List I->J->bL)(ops:Array Oper)(r:aC)(d:List bo)(q:aJ)(h:J):kL:=
 let steps:=dR ops.toList 0 [] []
 match e4 P need inR call ops r h.n steps [] d q ⟨h.t,h.n+ops.size⟩ [] with
 |.ok env d' aR ai aV=>match jM P need ops r env.length env none ai aV steps with
  |true=>.ok env d' aR ai
  |false=>.fail ""
 |.bm v env d' aR ai aV=>match aV with
  |(e,_,ay)::rest=>match jM P need ops r env.length env (some e) ay rest steps with
   |true=>.bm v d' aR ai
   |false=>.fail ""
  |[]=>.fail ""
 |.fail w=>.fail w
def mc(need:Nat)(m:Nat)(env:List I)(ff:aC):List (Nat×Acc)->aC->aC
 |[],r=>r
 |(t,a)::l,r=>
  let r':=mc need m env ff l r
  match Nat.testBit need t with
  |true=>r'.set (e2 t) (b9 m env ff a)
  |false=>r'
def r5:List (Nat×Acc)->aC->aC
 |[],r=>r
 |(t,_)::l,r=>(r5 l r).set (e2 t) .bad
def kN(need:Nat)(r:aC)(loc:List (Nat×Acc)):kL->hP
 |.ok env d q h=>.ok .nrm (mc need env.length env r loc r) d q h
 |.bm v d q h=>.ok (.bm v) (r5 loc r) d q h
 |.fail w=>.fail w
def nO(x:hP)(f:aC->List bo->aJ->J->hP):hP:=
 match x with
 |.ok .nrm r d q h=>f r d q h
 |x=>x
def mV(f:aC->List bo->aJ->J->hP):Nat->aC->List bo->aJ->J->hP
 |0,_,_,_,_=>.fail ""
 |n+1,r,d,q,h=>nO (f r d q h) (mV f n)
def me(rd:Option Nat)(n:Nat):Nat:=match rd with
 |none=>n+1
 |some _=>n
def tN(need:Nat)(rd:Option Nat)(r:aC)(ps:List Nat)(as bS:Code)(d:List bo)(h:J):Option (List bo×J):=
 match rd with
 |none=>some (.collected h.n::d,(h.push (.defrd (some []))).push (.loop .ready none need r ps as bS h.n))
 |some fY=>match h.get fY with
  |some (.loop _ _ _ _ _ _ _ ct)=>some (d,h.push (.loop .ready none need r ps as bS ct))
  |_=>none
def mf(l:Nat)(r:aC)(d:List bo)(q:aJ):bL->hP
 |.ret _ h=>match h.get l with
  |some (.loop st ey du rg ps as bS ct)=>match st with
   |.busy=>.fail ""
   |_=>match ey with
    |none=>.ok .nrm r d q (h.set l (some (.loop .exhausted ey du rg ps as bS ct)))
    |some .ret=>.ok .ret r d q (h.set l (some (.loop .exhausted ey du rg ps as bS ct)))
    |some (.exit id)=>.ok (.exit id) r d q (h.set l (some (.loop .exhausted ey du rg ps as bS ct)))
    |_=>.fail ""
  |_=>.fail ""
 |.bm v h=>.ok (.bm v) r d q h
 |.fail w=>.fail w
def cQ(P:Program)(need:Nat)(rd:Option Nat)(call:cM->List I->J->bL):Code->aC->List bo->aJ->J->hP
 |.skip,r,d,q,h=>.ok .nrm r d q h
 |.region id ops draw,r,d,q,h=>
  match draw with
  |false=>
   let pl:=j_ P need ops
   kN need r pl.loc (gH P need rd.isSome call r pl.steps [] d q h)
  |true=>kN need r (hh ops.toList 0 []) (p9 P need rd.isSome call ops r d q h)
 |.seq a b,r,d,q,h=>nO (cQ P need rd call a r d q h) (cQ P need rd call b)
 |.cond c a b,r,d,q,h=>match b9 0 [] r (bM P need [] c) with
  |.bool true=>cQ P need rd call a r d q h
  |.bool false=>cQ P need rd call b r d q h
  |_=>.fail ""
 |.block id b,r,d,q,h=>match cQ P need rd call b r d q h with
  |.ok (.exit i) r' d' aR ai=>if i=id then .ok .nrm r' d' aR ai else .ok (.exit i) r' d' aR ai
  |x=>x
 |.loop b,r,d,q,h=>mV (cQ P need rd call b) 100000 r d q h
 |.exit id,r,d,q,h=>.ok (.exit id) r d q h
 |.ret,r,d,q,h=>.ok .ret r d q h
 |.label _,r,d,q,h=>.ok .nrm r d q h
 |.goto l,r,d,q,h=>.fail ""
 |.scope b,r,d,q,h=>cQ P need rd call b r d q h
 |.rangeFunc f params assign body,r,d,q,h=>
  match tN need rd r params.toList assign body d h with
  |none=>.fail ""
  |some (d',h1)=>
   match p8 (b9 0 [] r (bM P need [] f)) [.bY (me rd h.n)] h1 with
   |.call g args aa=>mf (me rd h.n) r d' q (call (.fn g) args aa)
   |.bY l2 args aa=>mf (me rd h.n) r d' q (call (.bY l2) args aa)
   |_=>.fail ""
 |.refuse w,_,_,_,_=>.fail ""
def bit(t:Nat):Nat:=1<<<t
def C4:List Oper->Nat->Nat->Nat
 |[],_,acc=>acc
 |o::l,written,acc=>
  let acc:=o.op.operands.foldl (λa x=>match x with
   |.tmp t=>if Nat.testBit written t then a else a|||bit t
   |_=>a) acc
  C4 l (match o.dst with|some t=>written|||bit t|none=>written) acc
def C5:Operand->Nat
 |.tmp t=>bit t
 |_=>0
def oA:Code->Nat->Nat
 |.region _ ops _,acc=>C4 ops.toList 0 acc
 |.seq a b,acc=>oA b (oA a acc)
 |.cond c a b,acc=>oA b (oA a (acc|||C5 c))
 |.block _ b,acc|.loop b,acc|.scope b,acc=>oA b acc
 |.rangeFunc f ps a b,acc=>oA b (oA a (acc|||C5 f|||ps.foldl (λa t=>a|||bit t) 0))
 |_,acc=>acc
def bH(fn:Func):Nat:=
 let rs:=fn.results.foldl (λa r=>match r with|.tmp t=>a|||bit t|.cell t _=>a|||bit t) 0
 match fn.body with
 |some c=>oA c rs
 |none=>rs
def mg:Nat->List I->aC->aC
 |_,[],r=>r
 |i,v::l,r=>mg (i+1) l (r.set (e2 i) v)
def oB(P:Program)(need:Nat)(r:aC)(h:J)(x:ResultVar):Option I:=
 match x with
 |.tmp t=>match Nat.testBit need t with
  |true=>some (r.get (e2 t))
  |false=>none
 |.cell t ty=>match Nat.testBit need t with
  |true=>match r.get (e2 t),jJ P ty,cG P ty with
   |.ptr b off,some true,some n=>(match loadCells h b off n with|some cs=>some (.agg cs)|none=>none)
   |.ptr b off,some false,_=>aO h b off
   |_,_,_=>none
  |false=>none
def ly(f:ResultVar->Option I):List ResultVar->Option (List I)
 |[]=>some []
 |x::l=>match f x,ly f l with
  |some v,some vs=>some (v::vs)
  |_,_=>none
def mh(P:Program)(need:Nat)(fn:Func)(r:aC)(h:J):Option I:=
 match ly (oB P need r h) fn.results.toList with
 |some [v]=>some v
 |some vs=>some (.aF vs)
 |none=>none
def lz(c:Nat):List UInt8->Nat->Int
 |[],_=>-1
 |b::l,i=>match Nat.beq b.toNat c with
  |true=>Int.ofNat i
  |false=>lz c l (i+1)
def r6(P:Program)(fn:Func)(name:String)(args:List I)(h:J):Option (I×J):=
 match args with
 |[.int .i64 (.ofNat n)]=>if name= "internal/bytealg.MakeNoZero" then
    (match fn.resultTypes[0]? with
    |some t=>match P.underlying t with
     |some (.slice e)=>match Nat.ble n 1099511627776 with
      |true=>some (.slice h.n 0 n (.aE 1),h.push (.cells (List.replicate n .bad) e .aE 0 0))
      |false=>none
     |_=>none
    |none=>none) else none
 |[x]=>if name= "internal/abi.NoEscape" then some (x,h) else
  if name= "maps.clone" then(match x with
   |.iface t (.map r)=>match h.get r with
    |some (.map es c)=>some (.iface t (.map h.n),h.push (.map es c))
    |_=>none
   |_=>none) else none
 |[.str s,.int .u8 (.ofNat c)]=>if name= "internal/bytealg.IndexByteString" then
    (match Nat.blt c 256 with
    |true=>some (.int .i64 (lz c s 0),h)
    |false=>none) else none
 |_=>none
def oC:Option I->aJ
 |some v=>.act v
 |none=>.none
def p_(q:aJ)(dS:Option I):Option I:=match q with
 |.done _=>none
 |_=>dS
def iX(P:Program)(call:cM->List I->J->bL)(fn:Func)(args:List I)(q:aJ)(h:J):hP:=
 match fn.body with
 |some c=>match Nat.ble args.length fn.ntmps with
  |true=>cQ P (bH fn) none call c (mg 0 args .leaf) [] q h
  |false=>.fail ""
 |none=>.fail ""
def r7(P:Program)(fn:Func)(dS:Option I):hP->Option (Option I×J)
 |.ok e r d q h=>match(match e with|.nrm=>true|.ret=>true|_=>false),d,mh P (bH fn) fn r h with
  |true,[],some _=>some (p_ q dS,h)
  |_,_,_=>none
 |.fail _=>none
def gJ(P:Program)(call:cM->List I->J->bL)(need:Nat)(fn:Func)(r:aC):Nat->Option I->List bo->J->bL
 |0,_,_,_=>.fail ""
 |k+1,dS,ds,h=>match ds with
  |[]=>match dS with
   |none=>match mh P need fn r h with
    |some v=>.ret v h
    |none=>.fail ""
   |some v=>.bm v h
  |.collected b::ds=>match h.get b with
   |some (.defrd (some cs))=>gJ P call need fn r k dS (cs++ds) (h.set b (some (.defrd none)))
   |_=>.fail ""
  |.call g args::ds=>
   match P.funcs[g]? with
   |some fZ=>match r7 P fZ dS (iX P call fZ args (oC dS) h) with
    |some (Jh,ai)=>gJ P call need fn r k Jh ds ai
    |none=>.fail ""
   |none=>.fail ""
def lA(P:Program)(call:cM->List I->J->bL)(fn:Func):hP->bL
 |.ok .nrm r d _ h=>gJ P call (bH fn) fn r 100 none d h
 |.ok .ret r d _ h=>gJ P call (bH fn) fn r 100 none d h
 |.ok (.bm v) r d _ h=>gJ P call (bH fn) fn r 100 (some v) d h
 |.ok _ _ _ _ _=>.fail ""
 |.fail w=>.fail (w++ " < " ++fn.name)
def oD(P:Program)(call:cM->List I->J->bL)(f:Nat)(args:List I)(h:J):bL:=
 match P.funcs[f]? with
 |none=>.fail ""
 |some fn=>
  match fn.body with
  |none=>match r6 P fn fn.name args h with
   |some (v,ai)=>.ret v ai
   |none=>.fail ""
  |some _=>lA P call fn (iX P call fn args .none h)
def qa:List Nat->List I->aC->Option aC
 |[],[],r=>some r
 |t::ts,v::vs,r=>qa ts vs (r.set (e2 t) v)
 |_,_,_=>none
def r8(l:Nat):hP->bL
 |.ok e _ [] _ h=>match h.get l with
  |some (.loop .busy _ du rg ps as bS ct)=>match e with
   |.nrm=>.ret (.bool true) (h.set l (some (.loop .ready none du rg ps as bS ct)))
   |.ret=>.ret (.bool false) (h.set l (some (.loop .done (some .ret) du rg ps as bS ct)))
   |.exit id=>.ret (.bool false) (h.set l (some (.loop .done (some (.exit id)) du rg ps as bS ct)))
   |.bm v=>.bm v h
   |.goto _=>.fail ""
  |_=>.fail ""
 |.ok .. =>.fail ""
 |.fail w=>.fail (w++ " < round")
def wL(P:Program)(call:cM->List I->J->bL)(l need:Nat)(bS:Code):hP->bL
 |.ok .nrm r [] _ h=>match h.get l with
  |some (.loop .ready ey du rg ps oE oF ct)=>r8 l (cQ P need (some l) call bS r [] .none (h.set l (some (.loop .busy ey du rg ps oE oF ct))))
  |_=>.fail ""
 |.ok .. =>.fail ""
 |.fail w=>.fail w
def lB(P:Program)(call:cM->List I->J->bL)(l:Nat)(args:List I)(h:J):bL:=
 match h.get l with
 |some (.loop .ready _ need rg ps as bS _)=>
  match qa ps args rg with
  |none=>.fail ""
  |some ff=>wL P call l need bS (cQ P need (some l) call as ff [] .none h)
 |_=>.fail ""
def cu(P:Program)(intr:Nat->List I->J->Option (I×J)):Nat->cM->List I->J->bL
 |0,_,_,_=>.fail ""
 |n+1,.fn f,args,h=>match intr f args h with
  |some (v,ai)=>.ret v ai
  |none=>oD P (cu P intr n) f args h
 |n+1,.bY l,args,h=>lB P (cu P intr n) l args h
def lC(n:Nat):J:=⟨.leaf,n⟩
def ka(ops:Array Oper)(o:Oper):List Nat:=
 o.dst.toList++(o.op.operands.toList.filterMap λ|.tmp t=>some t|_=>none)++(match o.guard with|some (j,_)=>((ops[j]?).bind (·.dst)).toList|none=>[])
def mi(o:Oper)(i:Nat):Bool:=o.after.toList.all λe=>!Region.binds .any e||Nat.blt e.on i
def wM(ops:Array Oper)(s:DStep):List DStep->Bool
 |[]=>true
 |aD::l=>(match(match s.o.dst with|some t=>(ka ops aD.o).contains t|none=>false)||(match aD.o.dst with|some t=>(ka ops s.o).contains t|none=>false) with
   |true=>Nat.testBit aD.dF s.i
   |false=>true)&&wM ops s l
def nP(ops:Array Oper):List DStep->Bool
 |[]=>true
 |s::l=>mi s.o s.i&&wM ops s l&&nP ops l
def fg(bk:Nat):Code->Bool
 |.region _ ops draw=>ops.toList.all (λo=>match o.dst with|some t=>Nat.blt t bk|none=>true)&&(!draw||nP ops (dR ops.toList 0 [] []))
 |.seq a b=>fg bk a&&fg bk b
 |.cond _ a b=>fg bk a&&fg bk b
 |.block _ b|.loop b|.scope b=>fg bk b
 |.rangeFunc _ ps a b=>ps.toList.all (λt=>Nat.blt t bk)&&fg bk a&&fg bk b
 |_=>true
end aU
namespace aU
open Go
def gF.num:gF->Nat
 |.here=>0
 |.l p=>2*p.num+1
 |.r p=>2*p.num+2
theorem C6:∀(f n:Nat),n<=f->(tD f n).num=n
 |0,n,h=>by
  obtain rfl:n=0:=by omega
  rfl
 |f+1,0,_=>rfl
 |f+1,m+1,h=>by
  have e:Nat.mod m 2=m %2:=rfl
  have ar:Nat.div m 2=m/2:=rfl
  have a7:=C6 f (m/2) (by omega)
  simp only[tD,e,ar]
  rcases Nat.mod_two_eq_zero_or_one m with ay|h1
  · simp only[ay,gF.num,a7];omega
  · simp only[h1,gF.num,a7];omega
theorem wN(n:Nat):(e2 n).num=n:=C6 n n (Nat.le_refl n)
theorem Ji{m n:Nat}(h:e2 m=e2 n):m=n:=by rw[<-wN m,<-wN n,h]
theorem aC.oG(l:aC)(v:I)(r:aC):aC.zc l v r=.node l v r:=by cases l<;>rfl
theorem aC.oH(l:aC)(v:I)(r:aC):aC.zd l v r=.node l v r:=by cases r<;>rfl
theorem aC.lD(p:gF):aC.get p .leaf=.bad:=by cases p<;>rfl
theorem aC.tO:∀(p:gF) (v:I) (t:aC),(aC.set p v t).get p=v
 |.here,v,.leaf=>rfl
 |.here,v,.node .. =>rfl
 |.l p,v,.leaf=>by simp only[aC.set,aC.oG,aC.get];exact tO p v _
 |.l p,v,.node l _ _=>by simp only[aC.set,aC.oG,aC.get];exact tO p v _
 |.r p,v,.leaf=>by simp only[aC.set,aC.oH,aC.get];exact tO p v _
 |.r p,v,.node .. =>by simp only[aC.set,aC.oH,aC.get];exact tO p v _
theorem aC.tP:∀(p q:gF) (v:I) (t:aC),p≠q->(aC.set q v t).get p=t.get p
 |.here,.here,_,_,h=>absurd rfl h
 |.here,.l q,v,.leaf,_=>by simp[aC.set,aC.oG,aC.get]
 |.here,.l q,v,.node ..,_=>by simp[aC.set,aC.oG,aC.get]
 |.here,.r q,v,.leaf,_=>by simp[aC.set,aC.oH,aC.get]
 |.here,.r q,v,.node ..,_=>by simp[aC.set,aC.oH,aC.get]
 |.l p,.here,v,.leaf,_=>by simp[aC.set,aC.get,aC.lD]
 |.l p,.here,v,.node ..,_=>by simp[aC.set,aC.get]
 |.r p,.here,v,.leaf,_=>by simp[aC.set,aC.get,aC.lD]
 |.r p,.here,v,.node ..,_=>by simp[aC.set,aC.get]
 |.l p,.l q,v,.leaf,h=>by
  simp only[aC.set,aC.oG,aC.get]
  rw[tP p q v _ (λe=>h (by rw[e])),aC.lD]
 |.l p,.l q,v,.node ..,h=>by
  simp only[aC.set,aC.oG,aC.get]
  exact tP p q v _ (λe=>h (by rw[e]))
 |.r p,.r q,v,.leaf,h=>by
  simp only[aC.set,aC.oH,aC.get]
  rw[tP p q v _ (λe=>h (by rw[e])),aC.lD]
 |.r p,.r q,v,.node ..,h=>by
  simp only[aC.set,aC.oH,aC.get]
  exact tP p q v _ (λe=>h (by rw[e]))
 |.l p,.r q,v,.leaf,_=>by simp[aC.set,aC.oH,aC.get,aC.lD]
 |.l p,.r q,v,.node ..,_=>by simp[aC.set,aC.oH,aC.get]
 |.r p,.l q,v,.leaf,_=>by simp[aC.set,aC.oG,aC.get,aC.lD]
 |.r p,.l q,v,.node ..,_=>by simp[aC.set,aC.oG,aC.get]
theorem aC.cv(t u:Nat)(v:I)(r:aC):(aC.set (e2 u) v r).get (e2 t)=if t=u then v else r.get (e2 t):=by
 by_cases h:t=u
 · subst h;simp[aC.tO]
 · rw[if_neg h];exact aC.tP _ _ _ _ (λe=>h (Ji e))
theorem ea.lD(n:Nat):ea.get .leaf n=none:=rfl
theorem ea.cv:∀(f:Nat) (t:ea) (n m:Nat) (x:Option b2),n<f->(ea.jI f t n x).get m=if m=n then x else t.get m
 |0,_,n,_,_,h=>by omega
 |f+1,.leaf,0,m,x,_=>by
  cases m with
  |zero=>simp[ea.jI,ea.get]
  |succ m=>
   simp only[ea.jI,ea.get]
   have e:Nat.mod m 2=m %2:=rfl
   rcases Nat.mod_two_eq_zero_or_one m with h|h<;>simp[e,h]
 |f+1,.node l v r,0,m,x,_=>by
  cases m with
  |zero=>simp[ea.jI,ea.get]
  |succ m=>simp[ea.jI,ea.get]
 |f+1,.leaf,n+1,m,x,aB=>by
  have e (k:Nat):Nat.mod k 2=k %2:=rfl
  have ar (k:Nat):Nat.div k 2=k/2:=rfl
  have a7:=λj=>cv f .leaf (n/2) j x (by omega)
  rcases Nat.mod_two_eq_zero_or_one n with h|h
  · simp only[ea.jI,e,h,ar]
    cases m with
    |zero=>simp[ea.get]
    |succ m=>
     simp only[ea.get,e,ar]
     rcases Nat.mod_two_eq_zero_or_one m with g|g
     · simp only[g,a7,ea.lD]
       have:(m/2=n/2)<->(m+1=n+1):=by omega
       simp only[this]
     · simp only[g,ea.lD]
       rw[if_neg (by omega)]
  · simp only[ea.jI,e,h,ar]
    cases m with
    |zero=>simp[ea.get]
    |succ m=>
     simp only[ea.get,e,ar]
     rcases Nat.mod_two_eq_zero_or_one m with g|g
     · simp only[g,ea.lD]
       rw[if_neg (by omega)]
     · simp only[g,a7,ea.lD]
       have:(m/2=n/2)<->(m+1=n+1):=by omega
       simp only[this]
 |f+1,.node l v r,n+1,m,x,aB=>by
  have e (k:Nat):Nat.mod k 2=k %2:=rfl
  have ar (k:Nat):Nat.div k 2=k/2:=rfl
  have Jj:=λj=>cv f l (n/2) j x (by omega)
  have wO:=λj=>cv f r (n/2) j x (by omega)
  rcases Nat.mod_two_eq_zero_or_one n with h|h
  · simp only[ea.jI,e,h,ar]
    cases m with
    |zero=>simp[ea.get]
    |succ m=>
     simp only[ea.get,e,ar]
     rcases Nat.mod_two_eq_zero_or_one m with g|g
     · simp only[g,Jj]
       have:(m/2=n/2)<->(m+1=n+1):=by omega
       simp only[this]
     · simp only[g]
       rw[if_neg (by omega)]
  · simp only[ea.jI,e,h,ar]
    cases m with
    |zero=>simp[ea.get]
    |succ m=>
     simp only[ea.get,e,ar]
     rcases Nat.mod_two_eq_zero_or_one m with g|g
     · simp only[g]
       rw[if_neg (by omega)]
     · simp only[g,wO]
       have:(m/2=n/2)<->(m+1=n+1):=by omega
       simp only[this]
theorem J.cv(h:J)(b c:Nat)(o:Option b2):(h.set b o).get c=if c=b then o else h.get c:=
 ea.cv _ _ _ _ _ (Nat.lt_succ_self b)
theorem J.fO(h:J)(c:Nat)(o:b2):(h.push o).get c=if c=h.n then some o else h.get c:=
 ea.cv _ _ _ _ _ (Nat.lt_succ_self _)
@[simp] theorem J.qb (h:J) (b:Nat) (o:Option b2):(h.set b o).n=h.n:=rfl
@[simp] theorem J.iY (h:J) (o:b2):(h.push o).n=h.n+1:=rfl
structure fl where
 aT:Nat
 base:Nat
 size:Nat
abbrev aW:=Nat->Option fl
def dm(μ az:aW):Prop:=∀b i,μ b=some i->az b=some i
theorem dm.refl(μ:aW):dm μ μ:=λ_ _ h=>h
theorem dm.trans{μ az C7:aW}(h:dm μ az)(ai:dm az C7):dm μ C7:=λb i e=>ai b i (h b i e)
def zi(i:fl)(off len:Nat):cy->Value->Prop
 |.exact c,v=>v=.slice (some ⟨i.aT,i.base+off,none⟩) len c
 |.aE e1,v=>∃c,v=.slice (some ⟨i.aT,i.base+off,none⟩) len c/\len<=c/\off+c*e1=i.size
 |.dead,v=>len=0/\∃a c,v=.slice (some a) 0 c
mutual
def aS(μ:aW):I->Value->Prop
 |.bad,_=>True
 |.bool b,v=>v=.bool b
 |.int k n,v=>v=.int k n
 |.str s,v=>∃t,v=.string t/\t.data.toList=s
 |.d_,v=>v=.pointer none
 |.ptr b off,v=>∃i,μ b=some i/\v=.pointer (some ⟨i.aT,i.base+off,none⟩)
 |.bK,v=>v=.slice none 0 0
 |.slice b off len cap,v=>∃i,μ b=some i/\zi i off len cap v
 |.gw,v=>v=.map none
 |.map r,v=>∃i,μ r=some i/\v=.map (some i.aT)
 |.h8,v=>v=.nilFunc
 |.fn f first caps,v=>∃aP cs,v=.func (.func f) ⟨aP⟩ ⟨cs⟩/\bD μ first aP/\bD μ caps cs
 |.bY l,v=>∃i,μ l=some i/\v=.func (.yield i.aT) ⟨[]⟩ ⟨[]⟩
 |.dY,v=>v=.nilIface
 |.iface t x,v=>∃y,v=.iface t y/\aS μ x y
 |.agg cs,v=>∃l,v=.agg ⟨l⟩/\bD μ cs l
 |.aF vs,v=>∃l,v=.tuple ⟨l⟩/\bD μ vs l
def bD(μ:aW):List I->List Value->Prop
 |[],l=>l=[]
 |a::as,l=>∃v vs,l=v::vs/\aS μ a v/\bD μ as vs
end
mutual
theorem aS.mono{μ az:aW}(hle:dm μ az):∀(a:I) (v:Value),aS μ a v->aS az a v
 |.bad,_,_=>trivial
 |.bool _,_,h=>h
 |.int _ _,_,h=>h
 |.str _,_,h=>h
 |.d_,_,h=>h
 |.ptr b off,_,⟨i,h,e⟩=>⟨i,hle _ _ h,e⟩
 |.bK,_,h=>h
 |.slice b off len cap,_,⟨i,h,e⟩=>⟨i,hle _ _ h,e⟩
 |.gw,_,h=>h
 |.map r,_,⟨i,h,e⟩=>⟨i,hle _ _ h,e⟩
 |.h8,_,h=>h
 |.fn f first caps,_,⟨aP,cs,e,h1,aa⟩=>⟨aP,cs,e,bD.mono hle _ _ h1,bD.mono hle _ _ aa⟩
 |.bY l,_,⟨i,h,e⟩=>⟨i,hle _ _ h,e⟩
 |.dY,_,h=>h
 |.iface t x,_,⟨y,e,h⟩=>⟨y,e,aS.mono hle _ _ h⟩
 |.agg cs,_,⟨l,e,h⟩=>⟨l,e,bD.mono hle _ _ h⟩
 |.aF cs,_,⟨l,e,h⟩=>⟨l,e,bD.mono hle _ _ h⟩
theorem bD.mono{μ az:aW}(hle:dm μ az):∀(as:List I) (vs:List Value),bD μ as vs->bD az as vs
 |[],_,h=>h
 |a::as,_,⟨v,vs,e,h1,aa⟩=>⟨v,vs,e,aS.mono hle _ _ h1,bD.mono hle _ _ aa⟩
end
mutual
theorem iG(μ:aW):∀v:Value,aS μ (l9 v) v
 |.bool b=>rfl
 |.int k n=>rfl
 |.string s=>⟨s,rfl,rfl⟩
 |.pointer none=>rfl
 |.pointer (some _)=>trivial
 |.slice none 0 0=>rfl
 |.slice none 0 (_+1)=>trivial
 |.slice none (_+1) _=>trivial
 |.slice (some _) _ _=>trivial
 |.map none=>rfl
 |.map (some _)=>trivial
 |.nilFunc=>rfl
 |.nilIface=>rfl
 |.agg ⟨cs⟩=>⟨cs,rfl,zj μ cs⟩
 |.tuple ⟨cs⟩=>⟨cs,rfl,zj μ cs⟩
 |.float _ _=>trivial
 |.complex _ _ _=>trivial
 |.chan _=>trivial
 |.func _ _ _=>trivial
 |.iface _ _=>trivial
theorem zj(μ:aW):∀vs:List Value,bD μ (wC vs) vs
 |[]=>rfl
 |v::vs=>⟨v,vs,rfl,iG μ v,zj μ vs⟩
end
theorem bD.length{μ:aW}:∀{as:List I} {vs:List Value},bD μ as vs->as.length=vs.length
 |[],_,h=>by cases h;rfl
 |a::as,_,⟨v,vs,e,_,aa⟩=>by subst e;simp[bD.length aa]
theorem bD.append{μ:aW}:∀{as bs:List I} {vs us:List Value},bD μ as vs->bD μ bs us->bD μ (as++bs) (vs++us)
 |[],_,_,_,h,ai=>by cases h;exact ai
 |a::as,_,_,_,⟨v,vs,e,h1,aa⟩,ai=>by subst e;exact⟨v,vs++_,rfl,h1,bD.append aa ai⟩
theorem bD.get{μ:aW}:∀{as:List I} {vs:List Value} (_:bD μ as vs) {j:Nat} {a:I},as[j]? =some a->∃v,vs[j]? =some v/\aS μ a v
 |[],_,_,j,a,h=>by simp at h
 |x::as,_,⟨v,vs,e,h1,aa⟩,0,a,h=>by
  subst e;simp at h;subst h;exact⟨v,rfl,h1⟩
 |x::as,_,⟨v,vs,e,h1,aa⟩,j+1,a,h=>by
  subst e;simp at h;simpa using bD.get aa h
theorem bD.r9{μ:aW}:∀{as:List I} {vs:List Value},as.length=vs.length->(∀(j:Nat) (a:I),as[j]? =some a->∃v,vs[j]? =some v/\aS μ a v)->bD μ as vs
 |[],[],_,_=>rfl
 |[],_::_,h,_=>by simp at h
 |_::_,[],h,_=>by simp at h
 |a::as,v::vs,h,af=>by
  refine⟨v,vs,rfl,?_,bD.r9 (by simpa using h) λj x U=>?_⟩
  · obtain⟨u,hu,r⟩:=af 0 a rfl
    simp at hu;subst hu;exact r
  · simpa using af (j+1) x (by simpa using U)
theorem bD.map{μ:aW}{qc:Type}(g:qc->I)(ρ:qc->Value)(h:∀x,aS μ (g x) (ρ x)):∀l:List qc,bD μ (l.map g) (l.map ρ)
 |[]=>rfl
 |x::l=>⟨_,_,rfl,h x,bD.map g ρ h l⟩
theorem aS.cells{μ:aW}{a:I}{v:Value}(h:aS μ a v)(ad:a≠ .bad):bD μ a.cells v.cells.toList:=by
 cases a with
 |bad=>exact absurd rfl ad
 |agg cs=>obtain⟨l,rfl,aq⟩:=h;exact aq
 |aF vs=>obtain⟨l,rfl,aq⟩:=h;exact⟨_,_,rfl,⟨l,rfl,aq⟩,rfl⟩
 |bool b=>cases h;exact⟨_,_,rfl,rfl,rfl⟩
 |int k n=>cases h;exact⟨_,_,rfl,rfl,rfl⟩
 |str s=>obtain⟨t,rfl,e⟩:=h;exact⟨_,_,rfl,⟨t,rfl,e⟩,rfl⟩
 |d_=>cases h;exact⟨_,_,rfl,rfl,rfl⟩
 |ptr b off=>obtain⟨i,e,rfl⟩:=h;exact⟨_,_,rfl,⟨i,e,rfl⟩,rfl⟩
 |bK=>cases h;exact⟨_,_,rfl,rfl,rfl⟩
 |slice b off len cap=>
  obtain⟨i,e,ab⟩:=h
  have:v.cells=#[v]:=by
   cases cap with
   |exact c=>cases ab;rfl
   |aE e1=>obtain⟨c,rfl,_⟩:=ab;rfl
   |dead=>obtain⟨_,a,c,rfl⟩:=ab;rfl
  rw[this];exact⟨_,_,rfl,⟨i,e,ab⟩,rfl⟩
 |gw=>cases h;exact⟨_,_,rfl,rfl,rfl⟩
 |map r=>obtain⟨i,e,rfl⟩:=h;exact⟨_,_,rfl,⟨i,e,rfl⟩,rfl⟩
 |h8=>cases h;exact⟨_,_,rfl,rfl,rfl⟩
 |fn f a b=>obtain⟨aP,cs,rfl,h1,aa⟩:=h;exact⟨_,_,rfl,⟨aP,cs,rfl,h1,aa⟩,rfl⟩
 |bY l=>obtain⟨i,e,rfl⟩:=h;exact⟨_,_,rfl,⟨i,e,rfl⟩,rfl⟩
 |dY=>cases h;exact⟨_,_,rfl,rfl,rfl⟩
 |iface t x=>obtain⟨y,rfl,bc⟩:=h;exact⟨_,_,rfl,⟨y,rfl,bc⟩,rfl⟩
theorem aS.tQ{μ:aW}{a:I}{v:Value}(h:aS μ a v)(ab:a.cL=true):v.oneCell'=true:=by
 cases a with
 |bad=>simp[I.cL] at ab
 |agg cs=>simp[I.cL] at ab
 |aF vs=>simp[I.cL] at ab
 |bool b=>cases h;rfl
 |int k n=>cases h;rfl
 |str s=>obtain⟨t,rfl,e⟩:=h;rfl
 |d_=>cases h;rfl
 |ptr b off=>obtain⟨i,e,rfl⟩:=h;rfl
 |bK=>cases h;rfl
 |slice b off len cap=>
  obtain⟨i,e,ab⟩:=h
  cases cap with
  |exact c=>cases ab;rfl
  |aE e1=>obtain⟨c,rfl,_⟩:=ab;rfl
  |dead=>obtain⟨_,a,c,rfl⟩:=ab;rfl
 |gw=>cases h;rfl
 |map r=>obtain⟨i,e,rfl⟩:=h;rfl
 |h8=>cases h;rfl
 |fn f a b=>obtain⟨aP,cs,rfl,h1,aa⟩:=h;rfl
 |bY l=>obtain⟨i,e,rfl⟩:=h;rfl
 |dY=>cases h;rfl
 |iface t x=>obtain⟨y,rfl,bc⟩:=h;rfl
def gY(need:Nat)(μ:aW)(r:aC)(bC:Array Value):Prop:=∀t,Nat.testBit need t=true->aS μ (r.get (e2 t)) (bC.getD t undef)
theorem gY.mono{need:Nat}{μ az:aW}{r:aC}{bC:Array Value}(hle:dm μ az)(h:gY need μ r bC):gY need az r bC:=λt bd=>(h t bd).mono hle
inductive mj(μ:aW):bo->Deferred->Prop where
 |call (f:Nat) (args:List I) (cap vs:List Value) (h:bD μ args (vs++cap)):mj μ (.call f args) {target:=.fn (.func f) ⟨cap⟩,args:=⟨vs⟩}
 |collected (r:Nat) (i:fl) (h:μ r=some i):mj μ (.collected r) {target:=.collected i.aT,args:=#[]}
theorem mj.mono{μ az:aW}(hle:dm μ az){a:bo}{d:Deferred}(h:mj μ a d):mj az a d:=by
 cases h with
 |call f args cap vs h=>exact .call f args cap vs (h.mono hle)
 |collected r i h=>exact .collected r i (hle _ _ h)
def eb(μ:aW):List bo->List Deferred->Prop
 |[],l=>l=[]
 |a::as,l=>∃d ds,l=d::ds/\mj μ a d/\eb μ as ds
theorem eb.mono{μ az:aW}(hle:dm μ az):∀{as:List bo} {ds:List Deferred},eb μ as ds->eb az as ds
 |[],_,h=>h
 |_::_,_,⟨d,ds,e,h1,aa⟩=>⟨d,ds,e,h1.mono hle,eb.mono hle aa⟩
theorem eb.append{μ:aW}:∀{as bs:List bo} {ds es:List Deferred},eb μ as ds->eb μ bs es->eb μ (as++bs) (ds++es)
 |[],_,_,_,h,ai=>by cases h;exact ai
 |_::_,_,_,_,⟨d,ds,e,h1,aa⟩,ai=>by subst e;exact⟨d,ds++_,rfl,h1,eb.append aa ai⟩
def oI(μ:aW)(e:df)(m:MapEntry):Prop:=aS μ e.key m.key/\aS μ e.val m.val/\e.born=m.born
def ec(μ:aW):List df->List MapEntry->Prop
 |[],l=>l=[]
 |e::es,l=>∃m ms,l=m::ms/\oI μ e m/\ec μ es ms
theorem oI.mono{μ az:aW}(hle:dm μ az){e:df}{m:MapEntry}(h:oI μ e m):oI az e m:=⟨h.1.mono hle,h.2.1.mono hle,h.2.2⟩
theorem ec.mono{μ az:aW}(hle:dm μ az):∀{es:List df} {ms:List MapEntry},ec μ es ms->ec az es ms
 |[],_,h=>h
 |_::_,_,⟨m,ms,e,h1,aa⟩=>⟨m,ms,e,h1.mono hle,ec.mono hle aa⟩
def r_(μ:aW)(cs:List I)(c:Array Value)(base:Nat):Prop:=∀(j:Nat) (v:I),cs[j]? =some v->∃u,c[base+j]? =some u/\aS μ v u
def C8(k:e3)(cs:List I)(i:fl)(bF ag ed ee:Nat):Prop:=match k with
 |.own=>i.base=0/\i.size=cs.length/\ed=bF/\ee=ag
 |.aE=>cs.length<=i.size/\∀j,j<i.size->ed<=i.base+j->i.base+j<ee->bF<=j/\j<ag
 |.ro=>True
 |.fz=>True
def jl(μ:aW)(o:b2)(i:fl)(w:World):Prop:=match o with
 |.cells cs el k bF ag=>∃c ed ee,w.heap[i.aT]? =some (.cells c el (ed,ee))/\r_ μ cs c i.base/\i.base+i.size=c.size/\C8 k cs i bF ag ed ee
 |.map es clock=>∃ents,w.heap[i.aT]? =some (.map ⟨ents⟩ clock)/\ec μ es ents
 |.nI s pos=>i.base=0/\∃full,w.heap[i.aT]? =some (.stringIter full pos)/\full.data.toList.drop pos=s
 |.mapIter none since seen last=>i.base=0/\w.heap[i.aT]? =some (.mapIter none since ⟨seen⟩ last)
 |.mapIter (some m) since seen last=>i.base=0/\∃j,μ m=some j/\w.heap[i.aT]? =some (.mapIter (some j.aT) since ⟨seen⟩ last)
 |.loop st ey need j9 params as bS ct=>∃bC f_ fn,μ ct=some f_/\w.heap[i.aT]? =some (.loop {state:=st,pending:=ey,fn:=fn,tmps:=bC,params:=⟨params⟩,assign:=as,body:=bS,defers:=f_.aT})/\gY need μ j9 bC/\fg bC.size as=true/\fg bC.size bS=true/\∀t∈params,t<bC.size
 |.defrd none=>w.heap[i.aT]? =some (.deferred none)
 |.defrd (some ds)=>∃l,w.heap[i.aT]? =some (.deferred (some l))/\eb μ ds l
 |.raw o=>i.base=0/\w.heap[i.aT]? =some o
theorem jl.mono{μ az:aW}(hle:dm μ az){o:b2}{i:fl}{w w':World}(hw:w'.heap[i.aT]? =w.heap[i.aT]?)(h:jl μ o i w):jl az o i w':=by
 cases o with
 |cells cs el k bF ag=>
  obtain⟨c,ed,ee,h1,aa,ao⟩:=h
  exact⟨c,ed,ee,hw.trans h1,λj v e=>let⟨u,hu,r⟩:=aa j v e;⟨u,hu,r.mono hle⟩,ao⟩
 |map es clock=>obtain⟨ents,h1,aa⟩:=h;exact⟨ents,hw.trans h1,aa.mono hle⟩
 |nI s pos=>obtain⟨ay,full,h1,aa⟩:=h;exact⟨ay,full,hw.trans h1,aa⟩
 |mapIter m since seen last=>
  cases m with
  |none=>exact⟨h.1,hw.trans h.2⟩
  |some m=>obtain⟨ay,j,h1,aa⟩:=h;exact⟨ay,j,hle _ _ h1,hw.trans aa⟩
 |loop st ey fn j9 params as bS ct=>obtain⟨bC,f_,zk,h1,aa,ao,aM⟩:=h;exact⟨bC,f_,zk,hle _ _ h1,hw.trans aa,ao.mono hle,aM⟩
 |defrd calls=>
  cases calls with
  |none=>exact hw.trans h
  |some ds=>obtain⟨l,h1,aa⟩:=h;exact⟨l,hw.trans h1,aa.mono hle⟩
 |raw o=>exact⟨h.1,hw.trans h.2⟩
def b2.ml:b2->Bool
 |.cells _ _ .ro _ _=>true
 |.raw _=>true
 |_=>false
structure a8(μ:aW)(H:J)(w:World):Prop where
 rel:∀b o i,H.get b=some o->μ b=some i->jl μ o i w
 inj:∀b c i j,H.get b≠none->(∃o,H.get c=some o/\o.ml=false)->μ b=some i->μ c=some j->i.aT=j.aT->b=c
 lt:∀b i,μ b=some i->b<H.n/\i.aT<w.heap.size
 bound:∀b,H.n<=b->H.get b=none
structure bE(μ:aW)(H:J)(w:World)(az:aW)(ax:J)(w':World):Prop where
 le:dm μ az
 size:w.heap.size<=w'.heap.size
 n:H.n<=ax.n
 live:∀b,b<H.n->ax.get b≠none->H.get b≠none
 idle:∀b,b<H.n->μ b=none->ax.get b=H.get b
 old:∀r,r<w.heap.size->(∀b i,H.get b≠none->μ b=some i->i.aT≠r)->w'.heap[r]? =w.heap[r]?
 new:∀b i,μ b=none->az b=some i->H.n<=b/\(w.heap.size<=i.aT\/∃c o j,H.get c=some o/\o.ml=false/\μ c=some j/\j.aT=i.aT)
 ro:∀b o i,H.get b=some o->o.ml=true->μ b=some i->ax.get b=some o/\w'.heap[i.aT]? =w.heap[i.aT]?
 os:w'.os=w.os
 out:w'.output=w.output
 tape:w'.tape=w.tape
 drawn:w.drawn<=w'.drawn
theorem bE.refl(μ:aW)(H:J)(w:World):bE μ H w μ H w where
 le:=dm.refl μ
 size:=Nat.le_refl _
 n:=Nat.le_refl _
 live:=λ_ _ h=>h
 idle:=λ_ _ _=>rfl
 old:=λ_ _ _=>rfl
 new:=λb i h ai=>by rw[h] at ai;cases ai
 ro:=λ_ _ _ h _ _=>⟨h,rfl⟩
 os:=rfl
 out:=rfl
 tape:=rfl
 drawn:=Nat.le_refl _
theorem bE.trans{μ dv wP:aW}{H H1 ch:J}{w cK cf:World}(af:a8 μ H w)(ga:a8 dv H1 cK)(h:bE μ H w dv H1 cK)(ai:bE dv H1 cK wP ch cf):bE μ H w wP ch cf where
 le:=h.le.trans ai.le
 size:=Nat.le_trans h.size ai.size
 n:=Nat.le_trans h.n ai.n
 live:=λb ad aq=>h.live b ad (ai.live b (Nat.lt_of_lt_of_le ad h.n) aq)
 idle:=λb ad hm=>by
  rw[<-h.idle b ad hm]
  refine ai.idle b (Nat.lt_of_lt_of_le ad h.n) ?_
  cases h1:dv b with
  |none=>rfl
  |some i=>exact absurd (h.new b i hm h1).1 (Nat.not_le.2 ad)
 old:=λr ah aB=>by
  rw[ai.old r (Nat.lt_of_lt_of_le ah h.size),h.old r ah aB]
  intro b i aq hm he
  cases wQ:μ b with
  |some j=>
   have:=h.le b j wQ
   rw[hm] at this;cases this
   exact aB b i (h.live b (af.lt b i wQ).1 aq) wQ he
  |none=>
   obtain⟨_,ag|⟨c,o,j,ab,_,aG,mm⟩⟩:=h.new b i wQ hm
   · omega
   · exact aB c j (by rw[ab];simp) aG (mm.trans he)
 new:=λb i ad eI=>by
  cases h1:dv b with
  |some j=>
   have:=ai.le b j h1
   rw[eI] at this;cases this
   exact h.new b i ad h1
  |none=>
   obtain⟨aB,ag|⟨c,o,j,ab,gb,aG,mm⟩⟩:=ai.new b i h1 eI
   · exact⟨Nat.le_trans h.n aB,.inl (Nat.le_trans h.size ag)⟩
   · refine⟨Nat.le_trans h.n aB,?_⟩
     cases ay:μ c with
     |some hi=>
      have:=h.le c hi ay
      rw[aG] at this;cases this
      have sa:H.get c≠none:=h.live c (af.lt c j ay).1 (by rw[ab];simp)
      cases aj:H.get c with
      |none=>exact absurd aj sa
      |some tR=>
       cases wR:tR.ml with
       |false=>exact .inr ⟨c,tR,j,aj,wR,ay,mm⟩
       |true=>
        have:=(h.ro c tR j aj wR ay).1
        rw[ab] at this;cases this
        rw[gb] at wR;cases wR
     |none=>
      obtain⟨_,ag|⟨c',o',hi,tS,Jk,sb,Jl⟩⟩:=h.new c j ay aG
      · exact .inl (mm▸ag)
      · exact .inr ⟨c',o',hi,tS,Jk,sb,Jl.trans mm⟩
 ro:=λb o i ad ah ag=>by
  obtain⟨h1,aa⟩:=h.ro b o i ad ah ag
  obtain⟨ao,aM⟩:=ai.ro b o i h1 ah (h.le b i ag)
  exact⟨ao,aM.trans aa⟩
 os:=ai.os.trans h.os
 out:=ai.out.trans h.out
 tape:=ai.tape.trans h.tape
 drawn:=Nat.le_trans h.drawn ai.drawn
theorem a8.of_heap{μ:aW}{H:J}{w w':World}(h:a8 μ H w)(he:w'.heap=w.heap):a8 μ H w' where
 rel:=λb o i ad ag=>(h.rel b o i ad ag).mono (dm.refl μ) (by rw[he])
 inj:=h.inj
 lt:=λb i ag=>by rw[he];exact h.lt b i ag
 bound:=h.bound
theorem bE.of_heap{μ:aW}{H:J}{w w':World}(he:w'.heap=w.heap)(aN:w'.os=w.os)(aZ:w'.output=w.output)(bd:w'.tape=w.tape)(al:w.drawn<=w'.drawn:=by first|exact Nat.le_refl _|exact Nat.le_succ _|assumption):bE μ H w μ H w' where
 le:=dm.refl μ
 size:=by rw[he];exact Nat.le_refl _
 n:=Nat.le_refl _
 live:=λ_ _ h=>h
 idle:=λ_ _ _=>rfl
 old:=λ_ _ _=>by rw[he]
 new:=λb i h ai=>by rw[h] at ai;cases ai
 ro:=λ_ _ _ h _ _=>⟨h,by rw[he]⟩
 os:=aN
 out:=aZ
 tape:=bd
 drawn:=al
def eJ(μ:aW)(b:Nat)(i:fl):aW:=λc=>if c=b then some i else μ c
theorem e5(μ:aW)(b:Nat)(i:fl):eJ μ b i b=some i:=by simp[eJ]
theorem fP(μ:aW){b c:Nat}(i:fl)(h:c≠b):eJ μ b i c=μ c:=by simp[eJ,h]
theorem a8.fresh{μ:aW}{H:J}{w:World}(h:a8 μ H w):μ H.n=none:=by
 cases e:μ H.n with
 |none=>rfl
 |some i=>exact absurd (h.lt _ _ e).1 (Nat.lt_irrefl _)
theorem a8.mn{μ:aW}{H:J}{w:World}(h:a8 μ H w)(i:fl):dm μ (eJ μ H.n i):=λb j e=>by
 rw[fP];exact e
 intro ad;subst ad;rw[h.fresh] at e;cases e
theorem a8.alloc{μ:aW}{H:J}{w:World}(h:a8 μ H w)(o:b2)(x:Obj)(sz:Nat)
  (ah:jl (eJ μ H.n ⟨w.heap.size,0,sz⟩) o ⟨w.heap.size,0,sz⟩ (w.alloc x)):
  a8 (eJ μ H.n ⟨w.heap.size,0,sz⟩) (H.push o) (w.alloc x)/\bE μ H w (eJ μ H.n ⟨w.heap.size,0,sz⟩) (H.push o) (w.alloc x):=by
 have hle:=h.mn ⟨w.heap.size,0,sz⟩
 have hold:∀r,r<w.heap.size->(w.alloc x).heap[r]? =w.heap[r]? :=λr ah=>by
  simp only[World.alloc,Array.getElem?_push];rw[if_neg (by omega)]
 constructor
 · refine⟨λb bX i ad ag=>?_,λb c i j ad ab ag aG e=>?_,λb i ag=>?_,λb ad=>?_⟩
   · rw[J.fO] at ad
     by_cases e:b=H.n
     · rw[if_pos e] at ad;subst e;cases ad
       rw[e5] at ag;cases ag
       exact ah
     · rw[if_neg e] at ad;rw[fP _ _ e] at ag
       exact(h.rel b bX i ad ag).mono hle (hold _ (h.lt b i ag).2)
   · by_cases aw:b=H.n
     · by_cases ar:c=H.n
       · rw[aw,ar]
       · subst aw;rw[e5] at ag;cases ag
         rw[fP _ _ ar] at aG
         have:=(h.lt c j aG).2
         simp only at e;omega
     · by_cases ar:c=H.n
       · subst ar;rw[e5] at aG;cases aG
         rw[fP _ _ aw] at ag
         have:=(h.lt b i ag).2
         simp only at e;omega
       · rw[fP _ _ aw] at ag;rw[fP _ _ ar] at aG
         rw[J.fO,if_neg aw] at ad
         rw[J.fO,if_neg ar] at ab
         exact h.inj b c i j ad ab ag aG e
   · by_cases e:b=H.n
     · subst e;rw[e5] at ag;cases ag;simp
     · rw[fP _ _ e] at ag
       have:=h.lt b i ag
       simp only[J.iY,World.size_alloc];omega
   · simp only[J.iY] at ad
     rw[J.fO,if_neg (by omega)];exact h.bound b (by omega)
 · refine⟨hle,by simp,by simp,λb ad aq=>?_,λb ad _=>(by rw[J.fO,if_neg (by omega)]),λr ah _=>hold r ah,λb i ad eI=>?_,λb bX i ad _ ag=>?_,rfl,rfl,rfl,Nat.le_refl _⟩
   · rw[J.fO,if_neg (by omega)] at aq;exact aq
   · by_cases e:b=H.n
     · subst e;rw[e5] at eI;cases eI;exact⟨Nat.le_refl _,.inl (Nat.le_refl _)⟩
     · rw[fP _ _ e,ad] at eI;cases eI
   · have:=h.lt b i ag
     rw[J.fO,if_neg (by omega)]
     exact⟨ad,hold _ this.2⟩
theorem a8.update{μ:aW}{H:J}{w w':World}(h:a8 μ H w){b:Nat}{o o':b2}{i:fl}(ad:H.get b=some o)(gb:o.ml=false)(ag:μ b=some i)
  (ae:w'.heap.size=w.heap.size)(aN:∀r,r≠i.aT->w'.heap[r]? =w.heap[r]?)(tT:w'.os=w.os)(zl:w'.output=w.output)(zm:w'.tape=w.tape)(ah:jl μ o' i w')(hdr:w.drawn<=w'.drawn:=by first|exact Nat.le_refl _|assumption):
  a8 μ (H.set b (some o')) w'/\bE μ H w μ (H.set b (some o')) w':=by
 have sa:H.get b≠none:=by rw[ad];simp
 have nQ:∀c,(H.set b (some o')).get c≠none->H.get c≠none:=λc ab=>by
  rw[J.cv] at ab
  by_cases e:c=b
  · subst e;exact sa
  · rw[if_neg e] at ab;exact ab
 constructor
 · refine⟨λc oJ j ab aG=>?_,λc d j k ab al=>h.inj c d j k (nQ c ab) (by
     obtain⟨x,U,tU⟩:=al
     rw[J.cv] at U
     by_cases e:d=b
     · subst e;exact⟨o,ad,gb⟩
     · rw[if_neg e] at U;exact⟨x,U,tU⟩),λc j aG=>by rw[ae];exact h.lt c j aG,λc ab=>?_⟩
   · rw[J.cv] at ab
     by_cases e:c=b
     · subst e;rw[if_pos rfl] at ab;cases ab
       rw[ag] at aG;cases aG;exact ah
     · rw[if_neg e] at ab
       refine(h.rel c oJ j ab aG).mono (dm.refl μ) (aN _ λb_=>e (h.inj c b j i (by rw[ab];simp) ⟨o,ad,gb⟩ aG ag b_))
   · rw[J.cv,if_neg]
     · exact h.bound c ab
     · intro e;subst e;have:=(h.lt c i ag).1;simp at ab;omega
 · refine⟨dm.refl μ,by omega,by simp,λc _ ab=>nQ c ab,λc _ hm=>(by rw[J.cv,if_neg];intro e;subst e;rw[ag] at hm;cases hm),λr ah aB=>aN r λe=>aB b i sa ag e.symm,λc j h1 aa=>(by rw[h1] at aa;cases aa),λc oJ j ab oK aG=>?_,tT,zl,zm,hdr⟩
   have cj:c≠b:=by intro e;subst e;rw[ad] at ab;cases ab;rw[gb] at oK;cases oK
   refine⟨by rw[J.cv,if_neg cj];exact ab,aN _ λe=>cj (h.inj c b j i (by rw[ab];simp) ⟨o,ad,gb⟩ aG ag e)⟩
end aU
namespace aU
open Go
theorem add_plain(b o n:Nat):(⟨b,o,none⟩:Addr).add n=⟨b,o+n,none⟩:=by
 unfold Addr.add
 by_cases h:n=0
 · simp[h]
 · simp[h]
theorem lE{α:Type}:∀(n:Nat) (l:List α),nth n l=l[n]?
 |0,[]=>rfl
 |_+1,[]=>rfl
 |0,_::_=>rfl
 |n+1,_::l=>by simpa[nth] using lE n l
theorem lF{α:Type}:∀(n:Nat) (l:List α),hc n l=l.drop n
 |0,l=>by simp[hc]
 |_+1,[]=>by simp[hc]
 |n+1,_::l=>by simpa[hc] using lF n l
theorem qd:∀(n:Nat) (l r:List I),takeN n l=some r->n<=l.length/\r=l.take n
 |0,l,r,h=>by simp[takeN] at h;subst h;simp
 |_+1,[],r,h=>by simp[takeN] at h
 |n+1,a::l,r,h=>by
  simp only[takeN] at h
  cases e:takeN n l with
  |none=>simp[e] at h
  |some r'=>
   simp[e] at h;subst h
   obtain⟨h1,aa⟩:=qd n l r' e
   simp[aa];omega
theorem wS:∀(n:Nat) (vs cs r:List I),putCells n vs cs=some r->
  r.length=cs.length/\(vs≠[]->n+vs.length<=cs.length)/\(∀v∈vs,v.cL=true)/\∀j,r[j]? =if n<=j/\j<n+vs.length then vs[j-n]? else cs[j]?
 |0,[],cs,r,h=>by
  simp[putCells] at h;subst h
  refine⟨rfl,λh=>absurd rfl h,λv aI=>(by cases aI),λj=>by rw[if_neg (by simp)]⟩
 |0,_::_,[],r,h=>by simp[putCells] at h
 |0,v::vs,c::cs,r,h=>by
  simp only[putCells] at h
  cases ab:v.cL with
  |false=>simp[ab] at h
  |true=>
   simp only[ab] at h
   cases e:putCells 0 vs cs with
   |none=>simp[e] at h
   |some r'=>
    simp[e] at h;subst h
    obtain⟨h1,aa,ao,aM⟩:=wS 0 vs cs r' e
    refine⟨by simp[h1],λ_=>?_,λx U=>?_,λj=>?_⟩
    · cases vs with
      |nil=>simp
      |cons a l=>have:=aa (by simp);simp at this⊢;omega
    · cases U with
      |head=>exact ab
      |tail _ U=>exact ao x U
    · cases j with
      |zero=>simp
      |succ j=>simpa using aM j
 |n+1,[],cs,r,h=>by
  simp[putCells] at h;subst h
  refine⟨rfl,λh=>absurd rfl h,λv aI=>(by cases aI),λj=>by rw[if_neg (by simp)]⟩
 |n+1,_::_,[],r,h=>by simp[putCells] at h
 |n+1,v::vs,c::cs,r,h=>by
  simp only[putCells] at h
  cases e:putCells n (v::vs) cs with
  |none=>simp[e] at h
  |some r'=>
   simp[e] at h;subst h
   obtain⟨h1,aa,ao,aM⟩:=wS n (v::vs) cs r' e
   refine⟨by simp[h1],λ_=>?_,ao,λj=>?_⟩
   · have:=aa (by simp);simp at this⊢;omega
   · cases j with
     |zero=>simp
     |succ j=>
      have:=aM j
      simp only[List.getElem?_cons_succ,this,List.length_cons]
      have aw:(n+1<=j+1/\j+1<n+1+(vs.length+1))<->(n<=j/\j<n+(vs.length+1)):=by omega
      have ar:j+1-(n+1)=j-n:=by omega
      simp only[aw,ar]
theorem C9{w:World}{aT el ed ee:Nat}{c:Array Value}(h:w.heap[aT]? =some (.cells c el (ed,ee)))(k:Nat):w.cell? ⟨aT,k,none⟩=c[k]? :=by
 simp[World.cell?,h]
theorem C_{μ:aW}{H:J}{w:World}(af:a8 μ H w){b off:Nat}{i:fl}(ag:μ b=some i){cs:List I}{el bF dG:Nat}{k:e3}(ad:H.get b=some (.cells cs el k bF dG))
  {v:I}(aI:cs[off]? =some v):∃u,w.cell? ⟨i.aT,i.base+off,none⟩=some u/\aS μ v u:=by
 obtain⟨c,ed,ee,h1,aa,_⟩:=af.rel b _ i ad ag
 obtain⟨u,hu,r⟩:=aa off v aI
 exact⟨u,by rw[C9 h1,hu],r⟩
theorem Da{P:Program}{w:World}{a:Addr}{u:Value}(h:w.cell? a=some u):(_root_.Go.load a).run P w=.ok u w:=by
 rw[run_load];simp[h]
theorem Jm{P:Program}{μ:aW}{H:J}{w:World}(af:a8 μ H w){b:Nat}{i:fl}(ag:μ b=some i){cs:List I}{el bF dG:Nat}{k:e3}(ad:H.get b=some (.cells cs el k bF dG))(off:Nat):
  ∀(n s:Nat) (acc:Array Value) (oL:List I),takeN n (hc (off+s) cs)=some oL->
   ∃us:List Value,(loadCellsFrom ⟨i.aT,i.base+off,none⟩ s n acc).run P w=.ok (acc++us.toArray) w/\bD μ oL us:=by
 intro n
 induction n with
 |zero=>
  intro s acc oL h
  simp[takeN] at h;subst h
  exact⟨[],by simp[loadCellsFrom],rfl⟩
 |succ n a7=>
  intro s acc oL h
  rw[lF] at h
  cases al:cs.drop (off+s) with
  |nil=>rw[al] at h;simp[takeN] at h
  |cons a l=>
   rw[al] at h
   simp only[takeN] at h
   cases e:takeN n l with
   |none=>simp[e] at h
   |some r=>
    simp[e] at h;subst h
    have aH:cs[off+s]? =some a:=by
     have:=congrArg (·[0]?) al
     simpa[List.getElem?_drop] using this
    have aq:l=hc (off+(s+1)) cs:=by
     rw[lF]
     have:=congrArg (List.drop 1) al
     simp only[List.drop_drop,List.drop_succ_cons,List.drop_zero] at this
     rw[<-this];congr 1
    obtain⟨u,hu,ah⟩:=C_ af ag ad aH
    obtain⟨us,h1,aa⟩:=a7 (s+1) (acc.push u) r (by rw[<-aq];exact e)
    refine⟨u::us,?_,⟨u,us,rfl,ah,aa⟩⟩
    have mo:w.cell? ((⟨i.aT,i.base+off,none⟩:Addr).add s)=some u:=by rw[add_plain,Nat.add_assoc];exact hu
    simp only[loadCellsFrom,Sem.run_bind,Da mo,Result.andThen_ok,h1]
    congr 1
    apply Array.ext'
    simp
theorem oM{P:Program}{μ:aW}{H:J}{w:World}(af:a8 μ H w){b off n:Nat}{i:fl}(ag:μ b=some i){oL:List I}(h:loadCells H b off n=some oL):
  ∃us:List Value,(_root_.Go.loadCells ⟨i.aT,i.base+off,none⟩ n).run P w=.ok ⟨us⟩ w/\bD μ oL us:=by
 unfold loadCells at h
 split at h
 · rename_i cs el k bF dG ad
   obtain⟨us,h1,aa⟩:=Jm (P:=P) af ag ad off n 0 #[] oL h
   exact⟨us,by simpa[_root_.Go.loadCells] using h1,aa⟩
 · cases h
theorem zn{P:Program}{μ:aW}{H:J}{w:World}(af:a8 μ H w){b off:Nat}{i:fl}(ag:μ b=some i){v:I}(h:aO H b off=some v):
  ∃u,(_root_.Go.load ⟨i.aT,i.base+off,none⟩).run P w=.ok u w/\aS μ v u:=by
 unfold aO at h
 split at h
 · rename_i cs el k bF dG ad
   rw[lE] at h
   obtain⟨u,hu,ah⟩:=C_ af ag ad h
   exact⟨u,Da hu,ah⟩
 · cases h
theorem Db(P:Program)(aT k:Nat):∀(vs:List Value) (w:World) (i:Nat) (c:Array Value) (el ed ee:Nat),w.heap[aT]? =some (.cells c el (ed,ee))->
  (∀v∈vs,v.oneCell'=true)->k+i+vs.length<=c.size->(∀j,k+i<=j->j<k+i+vs.length->¬(ed<=j/\j<ee))->
  ∃w' c',(_root_.Go.storeCells ⟨aT,k,none⟩ vs i).run P w=.ok () w'/\w'.heap[aT]? =some (.cells c' el (ed,ee))/\(∀r,r≠aT->w'.heap[r]? =w.heap[r]?)/\w'.heap.size=w.heap.size/\
   w'.os=w.os/\w'.output=w.output/\(w'.tape=w.tape/\w'.drawn=w.drawn)/\c'.size=c.size/\∀j,c'[j]? =if k+i<=j/\j<k+i+vs.length then vs[j-(k+i)]? else c[j]? :=by
 intro vs
 induction vs with
 |nil=>
  intro w i c el ed ee ad _ _ _
  exact⟨w,c,by simp[_root_.Go.storeCells],ad,λ_ _=>rfl,rfl,rfl,rfl,⟨rfl,rfl⟩,rfl,λj=>by rw[if_neg (by simp)]⟩
 |cons v vs a7=>
  intro w i c el ed ee ad ab ae hf
  simp only[List.length_cons] at ae hf
  have bN:k+i<c.size:=by omega
  have qe:w.cell? ⟨aT,k+i,none⟩=some c[k+i]:=by rw[C9 ad];exact Array.getElem?_eq_getElem bN
  have zo:w.frozen? ⟨aT,k+i,none⟩=false:=by
   have:=hf (k+i) (by omega) (by omega)
   simp only[World.frozen?,ad]
   cases h1:decide (ed<=k+i) with
   |false=>rfl
   |true=>
    cases aa:decide (k+i<ee) with
    |false=>rfl
    |true=>exact absurd ⟨of_decide_eq_true h1,of_decide_eq_true aa⟩ this
  have hR:(w.setCell ⟨aT,k+i,none⟩ v).heap[aT]? =some (.cells (c.setIfInBounds (k+i) v) el (ed,ee)):=by
   simp[World.setCell,Array.getElem?_modify,ad]
  obtain⟨w',c',h1,aa,ao,aM,bA,dB,eK,lG,qf⟩:=a7 (w.setCell ⟨aT,k+i,none⟩ v) (i+1) (c.setIfInBounds (k+i) v) el ed ee hR (λx U=>ab x (.tail _ U)) (by simp;omega)
   (λj TM TN=>hf j (by omega) (by omega))
  refine⟨w',c',?_,aa,λr ah=>?_,?_,bA,dB,eK,by simpa using lG,λj=>?_⟩
  · simp only[_root_.Go.storeCells,Sem.run_bind,add_plain,run_store P w ⟨aT,k+i,none⟩ v .plain (ab v (.head _)),qe,zo,Bool.false_eq_true,if_false,Result.andThen_ok,h1]
  · rw[ao r ah];simp only[World.setCell,Array.getElem?_modify]
    rw[if_neg (λe=>ah e.symm)]
  · rw[aM];simp[World.setCell]
  · rw[qf j]
    by_cases e:j=k+i
    · subst e
      rw[if_neg (by omega),if_pos (by simp),Array.getElem?_setIfInBounds]
      simp[bN]
    · by_cases ar:k+(i+1)<=j/\j<k+(i+1)+vs.length
      · rw[if_pos ar,if_pos (by simp only[List.length_cons];omega)]
        have:j-(k+i)=(j-(k+(i+1)))+1:=by omega
        rw[this];simp
      · rw[if_neg ar,if_neg (by simp only[List.length_cons];omega),Array.getElem?_setIfInBounds]
        rw[if_neg (λb_=>e b_.symm)]
theorem bD.tQ{μ:aW}:∀{as:List I} {vs:List Value},bD μ as vs->(∀a∈as,a.cL=true)->∀v∈vs,v.oneCell'=true
 |[],_,h,_=>by cases h;intro v aI;cases aI
 |a::as,_,⟨v,vs,e,h1,aa⟩,ab=>by
  subst e
  intro x U
  cases U with
  |head=>exact h1.tQ (ab a (.head _))
  |tail _ U=>exact bD.tQ aa (λa aH=>ab a (.tail _ aH)) x U
theorem Jn{k:e3}{bF ag off n:Nat}(hw:jh k bF ag off n=true){cs:List I}{i:fl}{ed ee:Nat}(hk:C8 k cs i bF ag ed ee)(dU:n=0\/off+n<=i.size):
  ∀j,i.base+off<=j->j<i.base+off+n->¬(ed<=j/\j<ee):=by
 intro j h1 aa ⟨ao,aM⟩
 cases k with
 |ro=>simp[jh] at hw
 |fz=>simp[jh] at hw
 |own=>
  obtain⟨ad,ae,rfl,rfl⟩:=hk
  simp only[jh,Bool.or_eq_true,Nat.ble_eq] at hw
  omega
 |aE=>
  obtain⟨ae,hf⟩:=hk
  simp only[jh,Bool.or_eq_true,Nat.ble_eq] at hw
  have:=hf (j-i.base) (by omega) (by omega) (by omega)
  omega
theorem tV{P:Program}{μ:aW}{H:J}{w:World}(af:a8 μ H w){b off:Nat}{i:fl}(ag:μ b=some i){vs:List I}{us:List Value}(aI:bD μ vs us){ax:J}
  (h:storeCells H b off vs=some ax):
  ∃w',(_root_.Go.storeCells ⟨i.aT,i.base+off,none⟩ us).run P w=.ok () w'/\a8 μ ax w'/\bE μ H w μ ax w':=by
 unfold storeCells at h
 split at h
 · rename_i cs el k bF dG ad
   split at h
   · rename_i hw
     split at h
     · rename_i bq aZ
       cases h
       obtain⟨di,dC,gf,gK⟩:=wS _ _ _ _ aZ
       obtain⟨c,ed,ee,h1,aa,ao,aM⟩:=af.rel b _ i ad ag
       have hlen:=aI.length
       have bg:vs≠[]->off+vs.length<=i.size/\i.base+off+vs.length<=c.size:=λcj=>by
        have:=dC cj
        have mW:=aa (cs.length-1) (cs[cs.length-1]'(by cases vs with|nil=>exact absurd rfl cj|cons a l=>simp at this;omega)) (List.getElem?_eq_getElem _)
        obtain⟨u,hu,_⟩:=mW
        have bN:i.base+(cs.length-1)<c.size:=by
         rcases Nat.lt_or_ge (i.base+(cs.length-1)) c.size with h|h
         · exact h
         · rw[Array.getElem?_eq_none h] at hu;cases hu
        have oN:0<vs.length:=by cases vs with|nil=>exact absurd rfl cj|cons a l=>simp
        cases k with
        |ro=>simp[jh] at hw
        |fz=>simp[jh] at hw
        |own=>obtain⟨bl,a2,_⟩:=aM;omega
        |aE=>obtain⟨bl,_⟩:=aM;omega
       by_cases cj:vs=[]
       · subst cj
         have:us=[]:=by cases us with|nil=>rfl|cons a l=>simp at hlen
         subst this
         have fr:bq=cs:=by
          apply List.ext_getElem?
          intro j;rw[gK j,if_neg (by simp)]
         subst fr
         obtain⟨aX,bx⟩:=af.update (w':=w) ad (by cases k<;>first|rfl|simp[jh] at hw) ag rfl (λ_ _=>rfl) rfl rfl rfl (af.rel b _ i ad ag)
         exact⟨w,by simp[_root_.Go.storeCells],aX,bx⟩
       · obtain⟨s1,s2⟩:=bg cj
         obtain⟨w',c',aw,ar,bn,cR,fD,lH,oO,wT,tW⟩:=Db P i.aT (i.base+off) us w 0 c el ed ee h1 (aI.tQ gf) (by omega)
          (by have:=Jn hw aM (.inr s1);rw[hlen] at this;simpa using this)
         obtain⟨aX,bx⟩:=af.update (w':=w') (o':=.cells bq el k bF dG) ad (by cases k<;>first|rfl|simp[jh] at hw) ag cR bn fD lH oO.1 (hdr:=Nat.le_of_eq oO.2.symm)
          ⟨c',ed,ee,ar,λj v aG=>by
           rw[gK j] at aG
           rw[tW]
           by_cases ah:off<=j/\j<off+vs.length
           · rw[if_pos ah] at aG
             rw[if_pos (by omega)]
             have:i.base+j-(i.base+off+0)=j-off:=by omega
             rw[this];exact aI.get aG
           · rw[if_neg ah] at aG
             rw[if_neg (by omega)]
             exact aa j v aG,by omega,by
           cases k with
           |ro=>trivial
           |fz=>trivial
           |own=>obtain⟨bl,a2,a3⟩:=aM;exact⟨bl,by omega,a3⟩
           |aE=>obtain⟨bl,a2⟩:=aM;exact⟨by omega,a2⟩⟩
         exact⟨w',aw,aX,bx⟩
     · cases h
   · cases h
 · cases h
theorem World.heap_alloc_new(w:World)(x:Obj):(w.alloc x).heap[w.heap.size]? =some x:=by unfold World.alloc;simp
theorem wU{P:Program}{μ:aW}{H:J}{w:World}(af:a8 μ H w){el b:Nat}{cs:List I}{us:List Value}{ax:J}(aI:bD μ cs us)(h:newRow H el cs=some (b,ax)):
  (_root_.Go.newRow el ⟨us⟩).run P w=.ok ⟨w.heap.size,0,none⟩ (w.alloc (.cells ⟨us⟩ el))/\b=H.n/\eJ μ H.n ⟨w.heap.size,0,us.length⟩ b=some ⟨w.heap.size,0,us.length⟩/\
   a8 (eJ μ H.n ⟨w.heap.size,0,us.length⟩) ax (w.alloc (.cells ⟨us⟩ el))/\bE μ H w (eJ μ H.n ⟨w.heap.size,0,us.length⟩) ax (w.alloc (.cells ⟨us⟩ el)):=by
 unfold newRow at h
 split at h
 · cases h
   have hle:=af.mn ⟨w.heap.size,0,us.length⟩
   obtain⟨aX,bx⟩:=af.alloc (.cells cs el .own 0 0) (.cells ⟨us⟩ el) us.length
    ⟨⟨us⟩,0,0,by exact World.heap_alloc_new _ _,λj v aG=>by
      obtain⟨u,hu,ah⟩:=aI.get aG
      exact⟨u,by simpa using hu,ah.mono hle⟩,by simp,rfl,aI.length.symm,rfl,rfl⟩
   exact⟨by simp[_root_.Go.newRow],rfl,e5 _ _ _,aX,bx⟩
 · cases h
section types
variable {P:Program} {w:World} {t:TypeId}
theorem run_typeInfo{i:TypeInfo}(h:P.info? t=some i):(typeInfo t).run P w=.ok i w:=by simp[typeInfo,h]
theorem bt{d:TypeDesc}(h:P.underlying t=some d):(underlying t).run P w=.ok d w:=by simp[underlying,h]
theorem run_sizeOf{n:Nat}(h:cG P t=some n):(_root_.Go.sizeOf t).run P w=Result.ok n w:=by
 unfold cG at h
 split at h
 · rename_i i ag;cases h;simp[_root_.Go.sizeOf,run_typeInfo ag]
 · cases h
theorem qg{b:Bool}(h:jJ P t=some b):(isAgg t).run P w=.ok b w:=by
 unfold jJ at h
 cases hu:P.underlying t with
 |none=>rw[hu] at h;cases h
 |some d=>
  rw[hu] at h
  simp only[isAgg,Sem.run_bind,bt hu,Result.andThen_ok]
  cases d<;>cases h<;>rfl
theorem kb{z:I}(h:dV P t=some z):∃v,(zeroValue t).run P w=.ok v w/\z=l9 v/\z≠ .bad:=by
 unfold dV at h
 split at h
 · rename_i i ag
   split at h
   · rename_i v aI
     split at h
     · cases h
     · rename_i a cj
       cases h
       exact⟨v,by simp[zeroValue,run_typeInfo ag,aI],rfl,cj⟩
   · cases h
 · cases h
end types
end aU
namespace aU
open Go
def dW(P:Program)(μ:aW)(H:J)(w:World)(s:Sem Value)(v:I)(ax:J):Prop:=
 ∃az w' v',s.run P w=.ok v' w'/\aS az v v'/\a8 az ax w'/\bE μ H w az ax w'
theorem dW.same{P:Program}{μ:aW}{H:J}{w:World}{s:Sem Value}{v:I}{v':Value}(af:a8 μ H w)(ae:s.run P w=.ok v' w)(aI:aS μ v v'):dW P μ H w s v H:=
 ⟨μ,w,v',ae,aI,af,bE.refl _ _ _⟩
section
variable {P:Program} {μ:aW} {H:J} {w:World}
theorem Jo(af:a8 μ H w){e:TypeId}{z:I}(aL:dV P e=some z){b:Nat}{ax:J}(ah:newRow H e z.cells=some (b,ax)):
  dW P μ H w (Instr.alloc e true (.tuple #[])) (.ptr b 0) ax:=by
 obtain⟨v,aI,rfl,ad⟩:=kb (w:=w) aL
 have ab:=(iG μ v).cells ad
 obtain⟨h1,rfl,aa,ao,aM⟩:=wU (P:=P) af ab ah
 refine⟨_,_,.pointer (some ⟨w.heap.size,0,none⟩),?_,⟨_,aa,by simp⟩,ao,aM⟩
 simp[Instr.alloc,aI,newVar,h1]
theorem Jp(af:a8 μ H w){e:TypeId}{x:I}{v:Value}(aI:aS μ x v){b:Nat}{ax:J}(ah:newRow H e x.cells=some (b,ax)):
  dW P μ H w (Instr.box e v) (.ptr b 0) ax:=by
 have ad:x≠ .bad:=by intro h;rw[h] at ah;simp[newRow,I.cells,I.cL] at ah
 obtain⟨h1,rfl,aa,ao,aM⟩:=wU (P:=P) af (aI.cells ad) ah
 refine⟨_,_,.pointer (some ⟨w.heap.size,0,none⟩),?_,⟨_,aa,by simp⟩,ao,aM⟩
 simp[Instr.box,newVar,h1]
theorem Jq(af:a8 μ H w){t:TypeId}{b off:Nat}{v:Value}(aI:aS μ (.ptr b off) v):
  (∀n cs,jJ P t=some true->cG P t=some n->loadCells H b off n=some cs->dW P μ H w (Instr.loadAt t v) (.agg cs) H)/\
  (∀x,jJ P t=some false->aO H b off=some x->dW P μ H w (Instr.loadAt t v) x H):=by
 obtain⟨i,ag,rfl⟩:=aI
 constructor
 · intro n cs aH aB aq
   obtain⟨us,h1,aa⟩:=oM (P:=P) af ag aq
   exact .same af (v':=.agg ⟨us⟩) (by simp[Instr.loadAt,Instr.sureAddr,loadVar,qg aH,run_sizeOf aB,h1]) ⟨us,rfl,aa⟩
 · intro x aH aq
   obtain⟨u,h1,aa⟩:=zn (P:=P) af ag aq
   exact .same af (v':=u) (by simp only[Instr.loadAt,Instr.sureAddr,loadVar,Sem.run_bind,Sem.run_pure,Result.andThen_ok,qg aH,Bool.false_eq_true,if_false,h1]) aa
theorem Jr(af:a8 μ H w){t:TypeId}{b off n:Nat}{v u:Value}{x:I}(aI:aS μ (.ptr b off) v)(U:aS μ x u)(ad:x≠ .bad)(aB:cG P t=some n)(aq:x.cells.length=n)
  {ax:J}(ae:storeCells H b off x.cells=some ax):
  ∃w',(Instr.storeAt t v u).run P w=.ok () w'/\a8 μ ax w'/\bE μ H w μ ax w':=by
 obtain⟨i,ag,rfl⟩:=aI
 have ab:=U.cells ad
 obtain⟨w',h1,aa,ao⟩:=tV (P:=P) af ag ab ae
 refine⟨w',?_,aa,ao⟩
 have bg:u.cells.size=n:=by have:=ab.length;rw[aq] at this;simpa using this.symm
 simp[Instr.storeAt,Instr.sureAddr,storeVar,run_sizeOf aB,bg,h1]
theorem Dc(off:Nat):∀(l:List Value) (s:Nat) (cs:Array Value),off+s+l.length<=cs.size->
  ((l.zipIdx s).foldl (λcs (x:Value×Nat)=>cs.setIfInBounds (off+x.2) x.1) cs).size=cs.size/\
  ∀j:Nat,((l.zipIdx s).foldl (λcs (x:Value×Nat)=>cs.setIfInBounds (off+x.2) x.1) cs)[j]? =if off+s<=j/\j<off+s+l.length then l[j-(off+s)]? else cs[j]?
 |[],s,cs,_=>by
  refine⟨rfl,λj=>by rw[if_neg (by simp)];rfl⟩
 |a::l,s,cs,h=>by
  simp only[List.length_cons] at h
  obtain⟨h1,aa⟩:=Dc off l (s+1) (cs.setIfInBounds (off+s) a) (by simp;omega)
  simp only[List.zipIdx_cons,List.foldl_cons]
  refine⟨by rw[h1];simp,λj=>?_⟩
  rw[aa j]
  by_cases e:j=off+s
  · subst e
    rw[if_neg (by omega),if_pos (by simp),Array.getElem?_setIfInBounds]
    simp;omega
  · by_cases ar:off+(s+1)<=j/\j<off+(s+1)+l.length
    · rw[if_pos ar,if_pos (by simp only[List.length_cons];omega)]
      have:j-(off+s)=(j-(off+(s+1)))+1:=by omega
      rw[this];simp
    · rw[if_neg ar,if_neg (by simp only[List.length_cons];omega),Array.getElem?_setIfInBounds,if_neg (λb_=>e b_.symm)]
theorem tX(place:Nat->Option (Nat×Nat)){qc:Type}(g:qc->I)(ρ:qc->Value)(aj:∀x,aS μ (g x) (ρ x)):∀(ps:List (Nat×qc)) (cs r:List I) (c:Array Value),bD μ cs c.toList->
  h_ place cs (ps.map λp=>(p.1,g p.2))=some r->∃c':List Value,Instr.fill place c (ps.map λp=>(p.1,ρ p.2))=some ⟨c'⟩/\bD μ r c'
 |[],cs,r,c,ab,h=>by
  simp[h_] at h;subst h
  exact⟨c.toList,by simp[Instr.fill],ab⟩
 |(k,x)::ps,cs,r,c,ab,h=>by
  simp only[List.map_cons] at h⊢
  have aI:=aj x
  generalize g x=v at h aI
  generalize ρ x=u at aI⊢
  have ad:v≠ .bad:=by intro e;subst e;simp[h_] at h
  have kd:∃off size bq,place k=some (off,size)/\v.cells.length=size/\off+size<=cs.length/\putCells off v.cells cs=some bq/\h_ place bq (ps.map λp=>(p.1,g p.2))=some r:=by
   cases v<;>first
    |exact absurd rfl ad
    |(simp only[h_] at h
      split at h
      · cases h
      · rename_i off size lI
        split at h
        · rename_i bg
          simp only[Bool.and_eq_true,Nat.ble_eq] at bg
          split at h
          · rename_i bq tY
            exact⟨off,size,bq,lI,Nat.eq_of_beq_eq_true bg.1,bg.2,tY,h⟩
          · cases h
        · cases h)
  obtain⟨off,size,bq,lI,bg,hbound,tY,jm⟩:=kd
  obtain⟨di,dC,gf,gK⟩:=wS _ _ _ _ tY
  have ke:=aI.cells ad
  have aq:=ke.length
  have oP:=ab.length
  have ao:c.toList.length=c.size:=by simp
  have Js:u.cells.size=size:=by rw[<-bg,aq];simp
  obtain⟨f1,f2⟩:=Dc off u.cells.toList 0 c (by simp;omega)
  have Jt:(u.cells.zipIdx.foldl (λcs (x:Value×Nat)=>cs.setIfInBounds (off+x.2) x.1) c)=((u.cells.toList.zipIdx 0).foldl (λcs (x:Value×Nat)=>cs.setIfInBounds (off+x.2) x.1) c):=by
   rw[<-Array.foldl_toList,Array.toList_zipIdx]
  have key:bD μ bq (u.cells.zipIdx.foldl (λcs (x:Value×Nat)=>cs.setIfInBounds (off+x.2) x.1) c).toList:=by
   rw[Jt]
   refine bD.r9 (by rw[di,oP];simpa using f1.symm) λj a aH=>?_
   rw[gK j] at aH
   rw[Array.getElem?_toList,f2 j]
   have Ju:u.cells.toList.length=v.cells.length:=aq.symm
   by_cases ah:off<=j/\j<off+v.cells.length
   · rw[if_pos ah] at aH;rw[if_pos (by omega)]
     exact ke.get (by simpa using aH)
   · rw[if_neg ah] at aH;rw[if_neg (by omega)]
     simpa using ab.get aH
  obtain⟨c',g1,g2⟩:=tX place g ρ aj ps bq r _ key jm
  refine⟨c',?_,g2⟩
  simp only[Instr.fill,lI,Js]
  rw[if_neg (by simp;omega)]
  exact g1
theorem Jv{t:TypeId}{n:Nat}(h:cG P t=some n):P.cellsOf t=n:=by
 unfold cG at h
 split at h
 · rename_i i ag;cases h;simp[Program.cellsOf,ag]
 · cases h
theorem run_places(w:World):∀l:List Field,(l.all λf=>(cG P f.type).isSome)=true->
  (l.mapM (λf=>do pure (f.offset,<-_root_.Go.sizeOf f.type):Field->Sem (Nat×Nat))).run P w=.ok (l.map λf=>(f.offset,P.cellsOf f.type)) w
 |[],_=>rfl
 |f::l,h=>by
  simp only[List.all_cons,Bool.and_eq_true] at h
  obtain⟨n,aB⟩:=Option.isSome_iff_exists.1 h.1
  simp only[List.mapM_cons,Sem.run_bind,run_sizeOf aB,Result.andThen_ok,Sem.run_pure,run_places w l h.2,List.map_cons,Jv aB]
theorem Jw(af:a8 μ H w)(g:Operand->I)(ρ:Operand->Value)(aj:∀x,aS μ (g x) (ρ x)){t:TypeId}{z:I}(aL:dV P t=some z){aP:Array Field}(hu:P.underlying t=some (.struct aP))
  (dn:(aP.toList.all λf=>(cG P f.type).isSome)=true)(parts:Array (Nat×Operand)){cs:List I}
  (hf:h_ (λi=>(aP[i]?).map λf=>(f.offset,P.cellsOf f.type)) z.cells (parts.toList.map λp=>(p.1,g p.2))=some cs):
  dW P μ H w (Instr.build t (parts.map λ(i,x)=>(i,ρ x))) (.agg cs) H:=by
 obtain⟨v,aI,rfl,ad⟩:=kb (w:=w) aL
 have ab:=(iG μ v).cells ad
 obtain⟨c',h1,aa⟩:=tX _ g ρ aj parts.toList _ cs v.cells ab hf
 have aZ:=run_places (P:=P) w aP.toList dn
 refine .same af (v':=.agg ⟨c'⟩) ?_ ⟨c',rfl,aa⟩
 have hm:(aP.mapM (λf=>do pure (f.offset,<-_root_.Go.sizeOf f.type):Field->Sem (Nat×Nat))).run P w=.ok (aP.map λf=>(f.offset,P.cellsOf f.type)) w:=by
  obtain⟨l⟩:=aP
  have e:(l.toArray.mapM (λf=>do pure (f.offset,<-_root_.Go.sizeOf f.type):Field->Sem (Nat×Nat)))=List.toArray<$>l.mapM (λf=>do pure (f.offset,<-_root_.Go.sizeOf f.type)):=List.mapM_toArray
  refine(congrArg (λs:Sem (Array (Nat×Nat))=>s.run P w) e).trans ?_
  simp only[Sem.run_map]
  rw[show(Sem.run P (List.mapM (λf=>do pure (f.offset,<-_root_.Go.sizeOf f.type):Field->Sem (Nat×Nat)) l) w)=_ from aZ];simp
 have Jx:(λi:Nat=>(aP.map λf=>(f.offset,P.cellsOf f.type))[i]?)=λi=>(aP[i]?).map λf=>(f.offset,P.cellsOf f.type):=by
  funext i;simp
 simp only[Instr.build,Sem.run_bind,aI,Result.andThen_ok,bt hu,hm,Jx,Array.toList_map,h1]
 rfl
theorem Jy(af:a8 μ H w)(g:Operand->I)(ρ:Operand->Value)(aj:∀x,aS μ (g x) (ρ x)){t e:TypeId}{n sz:Nat}{z:I}(aL:dV P t=some z)(hu:P.underlying t=some (.array n e))
  (ae:cG P e=some sz)(parts:Array (Nat×Operand)){cs:List I}
  (hf:h_ (λi=>some (i*sz,sz)) z.cells (parts.toList.map λp=>(p.1,g p.2))=some cs):
  dW P μ H w (Instr.build t (parts.map λ(i,x)=>(i,ρ x))) (.agg cs) H:=by
 obtain⟨v,aI,rfl,ad⟩:=kb (w:=w) aL
 have ab:=(iG μ v).cells ad
 obtain⟨c',h1,aa⟩:=tX _ g ρ aj parts.toList _ cs v.cells ab hf
 refine .same af (v':=.agg ⟨c'⟩) ?_ ⟨c',rfl,aa⟩
 simp only[Instr.build,Sem.run_bind,aI,Result.andThen_ok,bt hu,run_sizeOf ae,Array.toList_map,h1]
 rfl
theorem Dd{α:Type}(n:Nat)(l:List α):(fc n l).length=n*l.length:=by
 induction n with
 |zero=>simp[fc]
 |succ n a7=>simp[fc,a7,Nat.succ_mul];omega
theorem De{α:Type}:∀(n:Nat) (l:List α) (j:Nat),j<n*l.length->(fc n l)[j]? =l[j %l.length]?
 |0,l,j,h=>by simp at h
 |n+1,l,j,h=>by
  simp only[fc]
  by_cases e:j<l.length
  · rw[List.getElem?_append_left e,Nat.mod_eq_of_lt e]
  · rw[List.getElem?_append_right (by omega),De n l (j-l.length) (by rw[Nat.succ_mul] at h;omega)]
    have:(j-l.length) %l.length=j %l.length:=by
     have af:j=(j-l.length)+l.length:=by omega
     conv=>rhs;rw[af,Nat.add_mod_right]
    rw[this]
theorem tZ{lJ:List I}{zero:Array Value}(aL:bD μ lJ zero.toList){sz:Nat}(ae:lJ.length=sz)(n:Nat):
  bD μ (fc n lJ) ((Array.range (n*sz)).map (λi=>zero[i %zero.size]!)).toList:=by
 have aq:=aL.length
 have ao:zero.toList.length=zero.size:=by simp
 refine bD.r9 (by rw[Dd,ae];simp) λj a aH=>?_
 have aG:j<n*lJ.length:=by
  rcases Nat.lt_or_ge j (n*lJ.length) with h|h
  · exact h
  · rw[List.getElem?_eq_none (by rw[Dd];exact h)] at aH;cases aH
 rw[De n lJ j aG] at aH
 obtain⟨u,hu,ah⟩:=aL.get aH
 refine⟨u,?_,ah⟩
 have oN:0<lJ.length:=by
  rcases Nat.eq_zero_or_pos lJ.length with h|h
  · rw[h] at aG;simp at aG
  · exact h
 have bN:j %zero.size<zero.size:=Nat.mod_lt _ (by omega)
 have aw:lJ.length=zero.size:=by omega
 rw[aw] at hu
 rw[Array.getElem?_toList] at hu
 rw[Array.getElem?_toList,Array.getElem?_map,Array.getElem?_range]
 rw[if_pos (by rw[<-ae];exact aG)]
 simp only[Option.map_some]
 rw[Array.getElem?_eq_getElem bN] at hu
 simp only[Option.some.injEq] at hu
 rw[getElem!_pos zero _ bN,hu]
theorem Jz(af:a8 μ H w)(g:Operand->I)(ρ:Operand->Value)(aj:∀x,aS μ (g x) (ρ x)){t e:TypeId}{len sz:Nat}{z:I}(hu:P.underlying t=some (.slice e))(ae:cG P e=some sz)
  (aL:dV P e=some z)(hle:len*sz<=16777216)(mX:z.cells.length=sz)(parts:Array (Nat×Operand)){cs:List I}
  (hf:h_ (λi=>some (i*sz,sz)) (if len*sz=0 then[] else fc len z.cells) (parts.toList.map λp=>(p.1,g p.2))=some cs){b:Nat}{ax:J}(ah:newRow H e cs=some (b,ax)):
  dW P μ H w (Instr.buildSlice t len (parts.map λ(i,x)=>(i,ρ x))) (.slice b 0 len (.exact len)) ax:=by
 obtain⟨v,aI,rfl,ad⟩:=kb (w:=w) aL
 have ab:=(iG μ v).cells ad
 have t_:¬(len*sz>2^24):=by omega
 have key:∀zero:Array Value,bD μ (if len*sz=0 then[] else fc len (l9 v).cells) ((Array.range (len*sz)).map (λi=>zero[i %zero.size]!)).toList->
   (∀r:Result Value,r=(match Instr.fill (λi=>some (i*sz,sz)) ((Array.range (len*sz)).map (λi=>zero[i %zero.size]!)) (parts.toList.map λp=>(p.1,ρ p.2)) with
    |some cells=>do pure (.slice (some (<-_root_.Go.newRow e cells)) len len)
    |none=>stuck "buildSlice: a part of the wrong size" :Sem Value).run P w->(Instr.buildSlice t len (parts.map λ(i,x)=>(i,ρ x))).run P w=r)->
   dW P μ H w (Instr.buildSlice t len (parts.map λ(i,x)=>(i,ρ x))) (.slice b 0 len (.exact len)) ax:=by
  intro zero qh dw
  obtain⟨c',h1,aa⟩:=tX _ g ρ aj parts.toList _ cs _ qh hf
  obtain⟨aY,rfl,bQ,cX,dL⟩:=wU (P:=P) af aa ah
  refine⟨_,_,.slice (some ⟨w.heap.size,0,none⟩) len len,?_,⟨_,bQ,by simp[zi]⟩,cX,dL⟩
  refine dw _ ?_
  rw[h1]
  simp[aY]
 by_cases ay:len*sz=0
 · refine key #[] (by rw[if_pos ay,ay];simp[bD]) λr ah=>?_
   rw[ah]
   simp only[Instr.buildSlice,Sem.run_bind,bt hu,Result.andThen_ok,run_sizeOf ae,if_neg t_,if_pos ay,Sem.run_pure,Array.toList_map]
   generalize Instr.fill _ _ _=F
   cases F<;>rfl
 · refine key v.cells (by rw[if_neg ay];exact tZ ab mX len) λr ah=>?_
   rw[ah]
   simp only[Instr.buildSlice,Sem.run_bind,bt hu,Result.andThen_ok,run_sizeOf ae,if_neg t_,if_neg ay,Sem.run_pure,Array.toList_map,aI]
   generalize Instr.fill _ _ _=F
   cases F<;>rfl
end
end aU
namespace aU
open Go
theorem nR(n:Nat)(h:n<9223372036854775808):IntKind.wrap .i64 (n:Int)=(n:Int):=by
 have e:((n:Int) %18446744073709551616)=n:=by omega
 have ar:(2:Int)^64=18446744073709551616:=by rfl
 have bn:(2:Int)^63=9223372036854775808:=by rfl
 simp only[IntKind.wrap,IntKind.bits,IntKind.signed,ar,bn,e,Bool.true_and,decide_eq_true_eq,Nat.add_one_sub_one]
 rw[if_neg (by show¬((2:Int)^63<=n);rw[bn];omega)]
section
variable {P:Program} {μ:aW} {H:J} {w:World}
theorem JA(af:a8 μ H w){t e:TypeId}{l c:Nat}{i:TypeInfo}{z:I}{kl kc:IntKind}(hu:P.underlying t=some (.slice e))(ag:P.info? e=some i)(aL:dV P e=some z)(oP:l<=c)
  (sc:c*(i.bytes+1)<=1099511627776)(mX:z.cells.length=i.size){b:Nat}{ax:J}(ah:newRow H e (if c*i.size=0 then[] else fc c z.cells)=some (b,ax)):
  dW P μ H w (Instr.makeSlice t (.int kl l) (.int kc c)) (.slice b 0 l (.exact c)) ax:=by
 obtain⟨v,aI,rfl,ad⟩:=kb (w:=w) aL
 have ab:=(iG μ v).cells ad
 have oQ:c<=1099511627776:=Nat.le_trans (Nat.le_mul_of_pos_right c (by omega)) sc
 have iH:i.bytes*c<=1099511627776:=by
  have:c*i.bytes<=c*(i.bytes+1):=Nat.mul_le_mul_left c (by omega)
  rw[Nat.mul_comm];omega
 have ua:∀n:Nat,n<=1099511627776->IntKind.wrap .i64 (n:Int)=(n:Int):=λn aB=>nR n (by omega)
 have ub:=ua l (by omega)
 have uc:=ua c oQ
 have qi:¬((c:Int)<0||(i.bytes:Int)*(c:Int)>2^48||(l:Int)<0||(l:Int)>(c:Int))=true:=by
  have h1:((i.bytes:Int)*(c:Int))<=1099511627776:=by
   have ay:((i.bytes*c:Nat):Int)<=1099511627776:=by omega
   rw[Int.natCast_mul] at ay;exact ay
  have aa:(2:Int)^48=281474976710656:=by rfl
  generalize (i.bytes:Int)*(c:Int)=q at h1⊢
  rw[aa]
  simp only[Bool.or_eq_true,decide_eq_true_eq]
  omega
 have key:∀zero:Array Value,bD μ (if c*i.size=0 then[] else fc c (l9 v).cells) ((Array.range (c*i.size)).map (λj=>zero[j %zero.size]!)).toList->
   (Instr.makeSlice t (.int kl l) (.int kc c)).run P w=(do let a<-_root_.Go.newRow e ((Array.range (c*i.size)).map (λj=>zero[j %zero.size]!));pure (.slice (some a) l c):Sem Value).run P w->
   dW P μ H w (Instr.makeSlice t (.int kl l) (.int kc c)) (.slice b 0 l (.exact c)) ax:=by
  intro zero qh dw
  obtain⟨aY,rfl,bQ,cX,dL⟩:=wU (P:=P) af qh ah
  refine⟨_,_,.slice (some ⟨w.heap.size,0,none⟩) l c,?_,⟨_,bQ,by simp[zi]⟩,cX,dL⟩
  rw[dw]
  simp only[Sem.run_bind,Sem.run_pure]
  have:(⟨((Array.range (c*i.size)).map (λj=>zero[j %zero.size]!)).toList⟩:Array Value)=((Array.range (c*i.size)).map (λj=>zero[j %zero.size]!)):=rfl
  rw[this] at aY
  rw[aY];rfl
 have bg:(_root_.Go.sizeOf e).run P w=.ok i.size w:=by simp[_root_.Go.sizeOf,run_typeInfo ag]
 by_cases ay:c*i.size=0
 · refine key #[] (by rw[if_pos ay,ay];simp[bD]) ?_
   simp only[Instr.makeSlice,Sem.run_bind,bt hu,Result.andThen_ok,asInt,asIntOf,Sem.run_pure,run_typeInfo ag,ub,uc]
   rw[if_neg qi]
   simp[bg,ay]
 · refine key v.cells (by rw[if_neg ay];exact tZ ab mX c) ?_
   simp only[Instr.makeSlice,Sem.run_bind,bt hu,Result.andThen_ok,asInt,asIntOf,Sem.run_pure,run_typeInfo ag,ub,uc]
   rw[if_neg qi]
   simp[bg,ay,aI]
theorem JB{x:I}{v:Value}(aI:aS μ x v)(U:(∃b o,x=.ptr b o)\/(∃b o n c,x=.slice b o n c)\/(∃f a b,x=.fn f a b)\/∃t y,x=.iface t y):
  ∀(o:Oper) (op:Operand) (ρ:Operand->Value),ρ op=v->o.op=.nilCheck op->(execOp ρ o).run P w=.ok (.value v) w:=by
 intro o op ρ JC aN
 simp only[execOp,aN,JC]
 rcases U with⟨b,o',rfl⟩|⟨b,o',n,c,rfl⟩|⟨f,a,b,rfl⟩|⟨t,y,rfl⟩
 · obtain⟨i,_,rfl⟩:=aI;rfl
 · obtain⟨i,_,ab⟩:=aI
   cases c with
   |exact c=>cases ab;rfl
   |aE e1=>obtain⟨c,rfl,_⟩:=ab;rfl
   |dead=>obtain⟨_,a,c,rfl⟩:=ab;rfl
 · obtain⟨aP,cs,rfl,_,_⟩:=aI;rfl
 · obtain⟨JD,rfl,_⟩:=aI;rfl
theorem JE(op:BinOp)(t:TypeId)(k:IntKind)(x y:Int)(dH:op≠ .shl/\op≠ .shr):binOp op t (.int k x) (.int k y)=match op with
  |.add|.sub|.mul=>Op.intArith op k x y
  |.quo|.rem=>Op.intDiv op k x y
  |.and|.or|.xor|.andNot=>Op.intBits op k x y
  |_=>Op.intCmp op x y:=by
 cases op<;>first
  |(exact absurd rfl dH.1)
  |(exact absurd rfl dH.2)
  |simp[binOp]
theorem JF{op:BinOp}{k:IntKind}{x y:Int}{v:I}(h:arith op k x y=some v)(dH:op≠ .shl/\op≠ .shr)(t:TypeId):
  ∃u,(binOp op t (.int k x) (.int k y)).run P w=.ok u w/\aS μ v u:=by
 rw[JE op t k x y dH]
 cases op<;>simp only[arith] at h
 case shl=>cases h
 case shr=>cases h
 case quo=>
  split at h
  · cases h
  · rename_i bc;cases h;exact⟨_,by simp only[Op.intDiv,if_neg bc];rfl,rfl⟩
 case rem=>
  split at h
  · cases h
  · rename_i bc;cases h;exact⟨_,by simp only[Op.intDiv,if_neg bc];rfl,rfl⟩
 all_goals (cases h;exact⟨_,rfl,rfl⟩)
theorem Df{op:BinOp}{k gn:IntKind}{x y:Int}{v:I}(h:tF op k x y=some v)(t:TypeId):
  ∃u,(binOp op t (.int k x) (.int gn y)).run P w=.ok u w/\aS μ v u:=by
 unfold tF at h
 split at h
 · cases h
 · rename_i bc
   cases op<;>simp only[] at h<;>first
    |(cases h;done)
    |(cases h;exact⟨_,by simp[binOp,Op.shift,bc],rfl⟩)
theorem Dg(b:ByteArray):∀(n i:Nat) (r:List UInt8),b.size-i=n->ByteArray.toList.loop b i r=r.reverse++b.data.toList.drop i
 |0,i,r,h=>by
  rw[ByteArray.toList.loop]
  have ae:b.data.toList.length=b.size:=Array.length_toList
  rw[if_neg (by omega),List.drop_eq_nil_of_le (by omega)];simp
 |n+1,i,r,h=>by
  rw[ByteArray.toList.loop]
  have ae:b.data.toList.length=b.size:=Array.length_toList
  rw[if_pos (by omega),Dg b n (i+1) _ (by omega)]
  rw[List.drop_eq_getElem_cons (i:=i) (by omega)]
  have:b.get! i=b.data.toList[i]'(by omega):=by
   have aa:i<b.data.size:=by have:=Array.length_toList (xs:=b.data);omega
   show b.data[i]! =_
   rw[getElem!_pos b.data i aa];simp
  simp[this]
theorem oR(s:ByteArray):s.toList=s.data.toList:=by
 unfold ByteArray.toList
 rw[Dg s _ 0 [] rfl];simp
theorem hA:∀a b:List UInt8,cW a b=(a==b)
 |[],[]=>rfl
 |[],_::_=>rfl
 |_::_,[]=>rfl
 |a::x,b::y=>by
  have a7:=hA x y
  simp only[cW,List.cons_beq_cons]
  cases e:Nat.beq a.toNat b.toNat with
  |true=>
   have:a=b:=UInt8.toNat_inj.1 (Nat.eq_of_beq_eq_true e)
   subst this;simp[a7]
  |false=>
   have:(a==b)=false:=by
    rw[beq_eq_false_iff_ne];intro h;subst h;simp at e
   simp[this]
theorem zp:∀a b:List UInt8,dA a b=Op.bytesLess a b
 |[],[]=>rfl
 |[],_::_=>rfl
 |_::_,[]=>rfl
 |a::x,b::y=>by
  have a7:=zp x y
  simp only[dA,Op.bytesLess]
  cases e:Nat.beq a.toNat b.toNat with
  |true=>
   have:a=b:=UInt8.toNat_inj.1 (Nat.eq_of_beq_eq_true e)
   subst this;simp[a7]
  |false=>
   have h1:(a==b)=false:=by
    rw[beq_eq_false_iff_ne];intro h;subst h;simp at e
   have aa:decide (a<b)=Nat.blt a.toNat b.toNat:=by
    rw[Bool.eq_iff_iff];simp[UInt8.lt_iff_toNat_lt]
   simp[h1,aa]
theorem Dh:∀a b:List UInt8,(Op.bytesLess a b||(a==b))=!Op.bytesLess b a
 |[],[]=>rfl
 |[],_::_=>rfl
 |_::_,[]=>rfl
 |a::x,b::y=>by
  have a7:=Dh x y
  simp only[Op.bytesLess,List.cons_beq_cons]
  by_cases h:a=b
  · subst h
    have:¬(a<a):=UInt8.lt_irrefl a
    simpa[this] using a7
  · have cj:(a==b)=false:=beq_eq_false_iff_ne.2 h
    have JG:(b==a)=false:=beq_eq_false_iff_ne.2 (λe=>h e.symm)
    simp only[cj,JG,Bool.false_and,Bool.or_false]
    rw[Bool.eq_iff_iff]
    simp only[decide_eq_true_eq,Bool.not_eq_true',decide_eq_false_iff_not,UInt8.lt_iff_toNat_lt]
    have:a.toNat≠b.toNat:=λe=>h (UInt8.toNat_inj.1 e)
    omega
theorem JH{op:BinOp}{a b:ByteArray}{v:I}(h:r0 op a.data.toList b.data.toList=some v)(t:TypeId):∃u,(binOp op t (.string a) (.string b)).run P w=.ok u w/\aS μ v u:=by
 have aH:=oR a
 have ad:=oR b
 have h1:=hA a.data.toList b.data.toList
 have aa:=zp a.data.toList b.data.toList
 have ao:=zp b.data.toList a.data.toList
 have bd:=Dh a.data.toList b.data.toList
 have ud:a.data.toList.length=a.size:=Array.length_toList
 have JI:b.data.toList.length=b.size:=Array.length_toList
 cases op<;>simp only[r0] at h
 case add=>
  split at h
  · cases h
  · rename_i aq
    cases h
    refine⟨.string (a++b),?_,⟨a++b,rfl,by simp[ByteArray.data_append]⟩⟩
    rw[ud,JI] at aq
    simp only[binOp,Op.stringOp]
    rw[if_neg aq];rfl
 case eql=>cases h;exact⟨_,rfl,congrArg Value.bool (by rw[aH,ad,h1])⟩
 case neq=>cases h;exact⟨_,rfl,congrArg Value.bool (by rw[aH,ad,h1])⟩
 case lss=>cases h;exact⟨_,rfl,congrArg Value.bool (by rw[aH,ad,aa])⟩
 case leq=>cases h;exact⟨_,rfl,congrArg Value.bool (by rw[aH,ad,ao];exact bd)⟩
 case gtr=>cases h;exact⟨_,rfl,congrArg Value.bool (by rw[aH,ad,ao,bd,Bool.not_not])⟩
 case geq=>cases h;exact⟨_,rfl,congrArg Value.bool (by rw[aH,ad,aa])⟩
 all_goals cases h
def lK(μ:aW):Option I->Option Value->Prop
 |none,none=>True
 |some a,some v=>aS μ a v
 |_,_=>False
theorem lK.map(g:Operand->I)(ρ:Operand->Value)(aj:∀x,aS μ (g x) (ρ x))(o:Option Operand):lK μ (o.map g) (o.map ρ):=by
 cases o with
 |none=>trivial
 |some x=>exact aj x
theorem Di{a:I}{n:Nat}(h:ez a=some n){v:Value}(aI:aS μ a v):∃k,v=.int k (n:Int):=by
 unfold ez at h
 split at h
 · rename_i k m;cases h;exact⟨k,aI⟩
 · cases h
theorem zq{n y:Nat}{k:IntKind}(h:n<=y)(c:BoundsCode):(Instr.sliceBound (.int k (n:Int)) y c).run P w=.ok n w:=by
 simp only[Instr.sliceBound,asIntOf,Sem.run_bind,Sem.run_pure,Result.andThen_ok]
 rw[if_pos ⟨by omega,by omega⟩]
 simp
theorem Dj{d n:Nat}{o:Option I}{o':Option Value}(h:ia d o=some n)(ah:lK μ o o'):(o'=none/\n=d/\o=none)\/∃k a,o=some a/\o'=some (.int k (n:Int)):=by
 cases o with
 |none=>cases o' with
  |none=>simp[ia] at h;exact .inl ⟨rfl,h.symm,rfl⟩
  |some _=>exact ah.elim
 |some a=>cases o' with
  |none=>exact ah.elim
  |some v=>obtain⟨k,e⟩:=Di (μ:=μ) h ah;exact .inr ⟨k,a,rfl,by rw[e]⟩
theorem mq{len cap l h m:Nat}{bF ag mx:Option I}{sd dG mx':Option Value}(hS:lK μ bF sd)(iI:lK μ ag dG)(iJ:lK μ mx mx')
  (ad:bounds len cap bF ag mx=some (l,h,m))(b:Bool):(Instr.sliceBounds b len cap sd dG mx').run P w=.ok (l,h,m) w/\l<=h/\h<=m/\m<=cap/\(mx=none->m=cap):=by
 unfold bounds at ad
 cases em:ia cap mx with
 |none=>rw[em] at ad;cases ad
 |some m1=>
  rw[em] at ad
  simp only at ad
  cases hm:Nat.ble m1 cap with
  |false=>rw[hm] at ad;cases ad
  |true=>
   rw[hm] at ad
   simp only at ad
   have oS:=Nat.le_of_ble_eq_true hm
   split at ad
   · cases ad
   · rename_i af wV
     cases zr:Nat.ble af m1 with
     |false=>rw[zr] at ad;cases ad
     |true=>
      rw[zr] at ad
      simp only at ad
      have Dk:=Nat.le_of_ble_eq_true zr
      cases el:ia 0 bF with
      |none=>rw[el] at ad;cases ad
      |some dx=>
       rw[el] at ad
       simp only at ad
       cases aq:Nat.ble dx af with
       |false=>rw[aq] at ad;cases ad
       |true=>
        rw[aq] at ad
        simp only[Option.some.injEq,Prod.mk.injEq] at ad
        obtain⟨rfl,rfl,rfl⟩:=ad
        have oT:=Nat.le_of_ble_eq_true aq
        have zs:(dG=none/\mx'=none/\af=len)\/∃k,dG=some (.int k (af:Int)):=by
         cases ag with
         |none=>cases dG with
          |some _=>exact iI.elim
          |none=>cases mx with
           |some _=>simp at wV
           |none=>cases mx' with
            |some _=>exact iJ.elim
            |none=>simp at wV;exact .inl ⟨rfl,rfl,wV.symm⟩
         |some a=>cases dG with
          |none=>exact iI.elim
          |some v=>
           have fQ:ez a=some af:=by cases mx<;>simpa using wV
           obtain⟨k,e⟩:=Di (μ:=μ) fQ iI
           exact .inr ⟨k,by rw[e]⟩
        refine⟨?_,oT,Dk,oS,λe=>by rw[e] at em;simp[ia] at em;exact em.symm⟩
        rcases Dj em iJ with⟨aw,ar,_⟩|⟨bz,_,_,aw⟩<;>rcases zs with⟨bn,cR,fD⟩|⟨bZ,bn⟩<;>rcases Dj el hS with⟨lH,oO,_⟩|⟨eO,_,_,lH⟩<;>
         first
         |(exfalso;simp[aw] at cR;done)
         |(subst_vars;simp[Instr.sliceBounds,zq oS,zq Dk,zq oT])
end
end aU
namespace aU
open Go
section
variable {P:Program} {μ:aW} {H:J} {w:World}
theorem JJ(t:ByteArray)(l h:Nat)(af:h<=t.size):(t.extract l h).data.toList=List.take (h-l) (hc l t.data.toList):=by
 rw[lF]
 simp only[ByteArray.data_extract,Array.toList_extract,List.extract_eq_take_drop]
theorem ue{m n:Nat}(h:m<=n):Nat.ble m n=true:=Nat.ble_eq_true_of_le h
theorem zt{len k c:Nat}{bF ag mx:Option I}{l h m:Nat}(ad:bounds len k bF ag mx=some (l,h,m))(hk:k<=c):bounds len c bF ag mx=some (l,h,if mx.isNone then c else m):=by
 have fin:∀(m1 m2:Nat) (E:Option Nat),m1<=m2->
   (match E with
   |none=>none
   |some af=>match Nat.ble af m1 with
    |false=>none
    |true=>match ia 0 bF with
     |none=>none
     |some l=>match Nat.ble l af with
      |false=>none
      |true=>some (l,af,m1))=some (l,h,m)->
   (match E with
   |none=>none
   |some af=>match Nat.ble af m2 with
    |false=>none
    |true=>match ia 0 bF with
     |none=>none
     |some l=>match Nat.ble l af with
      |false=>none
      |true=>some (l,af,m2))=some (l,h,m2):=by
  intro m1 m2 E hm dM
  cases E with
  |none=>cases dM
  |some af=>
   simp only at dM⊢
   cases h1:Nat.ble af m1 with
   |false=>rw[h1] at dM;cases dM
   |true=>
    rw[h1] at dM
    rw[ue (Nat.le_trans (Nat.le_of_ble_eq_true h1) hm)]
    simp only at dM⊢
    cases aq:ia 0 bF with
    |none=>rw[aq] at dM;cases dM
    |some dx=>
     rw[aq] at dM
     simp only at dM⊢
     cases aM:Nat.ble dx af with
     |false=>rw[aM] at dM;cases dM
     |true=>rw[aM] at dM;simp only[Option.some.injEq,Prod.mk.injEq] at dM⊢;exact⟨dM.1,dM.2.1,trivial⟩
 unfold bounds at ad⊢
 cases mx with
 |none=>
  have aw:ia k none=some k:=rfl
  have ar:ia c none=some c:=rfl
  rw[aw] at ad;rw[ar]
  simp only at ad⊢
  rw[ue (Nat.le_refl k)] at ad;rw[ue (Nat.le_refl c)]
  simp only[Option.isNone_none,if_true] at ad⊢
  cases ag with
  |none=>exact fin k c (some len) hk ad
  |some a=>exact fin k c (ez a) hk ad
 |some qj=>
  have aw:ia k (some qj)=ez qj:=rfl
  have ar:ia c (some qj)=ez qj:=rfl
  rw[aw] at ad;rw[ar]
  cases em:ez qj with
  |none=>rw[em] at ad;cases ad
  |some m1=>
   rw[em] at ad
   simp only at ad⊢
   cases h1:Nat.ble m1 k with
   |false=>rw[h1] at ad;cases ad
   |true=>
    rw[h1] at ad
    rw[ue (Nat.le_trans (Nat.le_of_ble_eq_true h1) hk)]
    simp only[Option.isNone_some,Bool.false_eq_true,if_false] at ad⊢
    have JK:m1=m:=by
     cases ag<;>simp only at ad
     · cases ad
     · split at ad<;>try cases ad
       split at ad<;>try cases ad
       split at ad<;>try cases ad
       split at ad<;>first|cases ad;rfl|cases ad
    subst JK
    cases ag<;>exact ad
theorem JL(af:a8 μ H w){t:TypeId}{x:I}{bf:Value}(U:aS μ x bf){bF ag mx:Option I}{sd dG mx':Option Value}(hS:lK μ bF sd)(iI:lK μ ag dG)(iJ:lK μ mx mx'){v:I}
  (h:gp P H t x bF ag mx=some v):dW P μ H w (Instr.sliceAt t bf sd dG mx') v H:=by
 unfold gp at h
 split at h
 ·
  rename_i s hu
  obtain⟨bs,rfl,rfl⟩:=U
  cases mx with
  |some _=>cases h
  |none=>
   simp only at h
   cases mx' with
   |some _=>exact iJ.elim
   |none=>
    split at h
    · rename_i l ad m hj
      cases h
      have bg:bs.data.toList.length=bs.size:=Array.length_toList
      rw[bg] at hj
      obtain⟨aX,bx,db,dc,_⟩:=mq (P:=P) (w:=w) hS iI (μ:=μ) (mx:=none) (mx':=none) trivial hj false
      refine .same af (v':=.string (bs.extract l ad)) ?_ ⟨_,rfl,JJ _ _ _ (by omega)⟩
      simp[Instr.sliceAt,Instr.slice,bt hu,aX]
    · cases h
 ·
  rename_i e hu
  cases U
  split at h
  · rename_i sz r ae hj
    cases h
    obtain⟨l,ad,m⟩:=r
    obtain⟨aX,bx,db,dc,_⟩:=mq (P:=P) (w:=w) hS iI iJ hj true
    have:m=0/\l=0/\ad=0:=by omega
    obtain⟨rfl,rfl,rfl⟩:=this
    exact .same af (v':=.slice none 0 0) (by simp[Instr.sliceAt,Instr.slice,bt hu,aX,run_sizeOf ae]) rfl
  · cases h
 ·
  rename_i e b off len cap hu
  obtain⟨i,lL,ab⟩:=U
  cases ab
  split at h
  · rename_i sz l ad m ae hj
    cases h
    obtain⟨aX,bx,db,dc,_⟩:=mq (P:=P) (w:=w) hS iI iJ hj true
    refine .same af (v':=.slice (some ⟨i.aT,i.base+(if m=l then off else off+l*sz),none⟩) (ad-l) (m-l)) ?_ ⟨i,lL,rfl⟩
    by_cases e:m=l
    · simp[Instr.sliceAt,Instr.slice,bt hu,aX,run_sizeOf ae,e]
    · simp[Instr.sliceAt,Instr.slice,bt hu,aX,run_sizeOf ae,e,add_plain,Nat.add_assoc]
  · cases h
 ·
  rename_i e b off len e1 hu
  obtain⟨i,lL,c,rfl,oP,bg⟩:=U
  split at h
  · rename_i sz ae
    split at h
    · rename_i JM
      subst JM
      cases mx with
      |none=>
       cases mx' with
       |some _=>exact iJ.elim
       |none=>
        simp only at h
        split at h
        · rename_i l ad m hj
          have uf:bounds len c bF ag none=some (l,ad,c):=zt hj oP
          obtain⟨aX,bx,db,dc,_⟩:=mq (P:=P) (w:=w) hS iI (μ:=μ) (mx:=none) (mx':=none) trivial uf true
          obtain⟨_,a_,bO,kO,_⟩:=mq (P:=P) (w:=w) hS iI (μ:=μ) (mx:=none) (mx':=none) trivial hj true
          have dw:(Instr.sliceAt t (.slice (some ⟨i.aT,i.base+off,none⟩) len c) sd dG none).run P w=.ok (.slice (some (if c=l then⟨i.aT,i.base+off,none⟩ else⟨i.aT,i.base+off+l*sz,none⟩)) (ad-l) (c-l)) w:=by
           by_cases e:c=l
           · subst e;simp[Instr.sliceAt,Instr.slice,bt hu,aX,run_sizeOf ae]
           · simp[Instr.sliceAt,Instr.slice,bt hu,aX,run_sizeOf ae,e,add_plain]
          split at h
          · rename_i wW
            subst wW
            cases h
            refine .same af dw ⟨i,lL,c,?_,by omega,bg⟩
            by_cases e:c=0
            · simp[e]
            · simp[e]
          · rename_i wW
            split at h
            · rename_i bN
              cases h
              simp only[Nat.blt_eq] at bN
              refine .same af dw ⟨i,lL,c-l,?_,by omega,?_⟩
              · rw[if_neg (by omega)];simp[Nat.add_assoc]
              · have:c*sz=l*sz+(c-l)*sz:=by rw[<-Nat.add_mul];congr 1;omega
                omega
            · rename_i bN
              cases h
              have zu:¬l<len:=by simpa[Nat.blt_eq] using bN
              have ay:ad-l=0:=by omega
              rw[ay] at dw
              exact .same af dw ⟨i,lL,rfl,_,c-l,rfl⟩
        · cases h
      |some qj=>
       simp only at h
       split at h
       · rename_i l ad m hj
         cases h
         obtain⟨_,a_,bO,kO,_⟩:=mq (P:=P) (w:=w) hS iI iJ hj true
         have uf:bounds len c bF ag (some qj)=some (l,ad,m):=zt hj oP
         obtain⟨aX,bx,db,dc,_⟩:=mq (P:=P) (w:=w) hS iI iJ uf true
         refine .same af (v':=.slice (some ⟨i.aT,i.base+(if m=l then off else off+l*sz),none⟩) (ad-l) (m-l)) ?_ ⟨i,lL,rfl⟩
         by_cases e:m=l
         · simp[Instr.sliceAt,Instr.slice,bt hu,aX,run_sizeOf ae,e]
         · simp[Instr.sliceAt,Instr.slice,bt hu,aX,run_sizeOf ae,e,add_plain,Nat.add_assoc]
       · cases h
    · cases h
  · cases h
 ·
  rename_i e b off len hu
  obtain⟨i,lL,rfl,a,c,rfl⟩:=U
  split at h
  · rename_i sz r ae hj
    cases h
    obtain⟨l,ad,m⟩:=r
    obtain⟨_,a_,bO,kO,nS⟩:=mq (P:=P) (w:=w) hS iI iJ hj true
    have:m=0/\l=0/\ad=0:=by omega
    obtain⟨rfl,rfl,rfl⟩:=this
    have uf:bounds 0 c bF ag mx=some (0,0,(if mx.isNone then c else 0)):=zt hj (Nat.zero_le _)
    obtain⟨aX,bx,db,dc,_⟩:=mq (P:=P) (w:=w) hS iI iJ uf true
    refine .same af (v':=.slice (some a) 0 ((if mx.isNone then c else 0)-0)) ?_ ⟨i,lL,rfl,a,_,rfl⟩
    have aH:a.add (0*sz)=a:=by simp[Addr.add]
    simp[Instr.sliceAt,Instr.slice,bt hu,aX,run_sizeOf ae,Addr.add]
  · cases h
 ·
  rename_i n e b off hu
  obtain⟨i,lL,rfl⟩:=U
  split at h
  · rename_i sz l ad m ae hj
    cases h
    obtain⟨aX,bx,db,dc,_⟩:=mq (P:=P) (w:=w) hS iI iJ hj false
    refine .same af (v':=.slice (some ⟨i.aT,i.base+(if m=l then off else off+l*sz),none⟩) (ad-l) (m-l)) ?_ ⟨i,lL,rfl⟩
    by_cases e:m=l
    · simp[Instr.sliceAt,Instr.sureAddr,bt hu,aX,run_sizeOf ae,e]
    · simp[Instr.sliceAt,Instr.sureAddr,bt hu,aX,run_sizeOf ae,e,add_plain,Nat.add_assoc]
  · cases h
 ·
  rename_i arr b off hu
  obtain⟨i,lL,rfl⟩:=U
  split at h
  · rename_i n e oU
    split at h
    · rename_i sz l ad m ae hj
      cases h
      obtain⟨aX,bx,db,dc,_⟩:=mq (P:=P) (w:=w) hS iI iJ hj false
      refine .same af (v':=.slice (some ⟨i.aT,i.base+(if m=l then off else off+l*sz),none⟩) (ad-l) (m-l)) ?_ ⟨i,lL,rfl⟩
      by_cases e:m=l
      · simp[Instr.sliceAt,Instr.slice,asAddr,bt hu,bt oU,aX,run_sizeOf ae,e]
      · simp[Instr.sliceAt,Instr.slice,asAddr,bt hu,bt oU,aX,run_sizeOf ae,e,add_plain,Nat.add_assoc]
    · cases h
  · cases h
 · cases h
theorem oV{t:TypeId}{off:Nat}{cs:List I}{l:List Value}(aq:bD μ cs l){v:I}(h:kJ P t cs off=some v):∃u,(part t ⟨l⟩ off).run P w=.ok u w/\aS μ v u:=by
 unfold kJ at h
 split at h
 · rename_i n aH aB
   split at h
   · rename_i r ah
     cases h
     rw[lF] at ah
     obtain⟨h1,rfl⟩:=qd _ _ _ ah
     refine⟨.agg ⟨(l.drop off).take n⟩,?_,⟨_,rfl,?_⟩⟩
     · simp[part,qg aH,run_sizeOf aB,List.extract_eq_take_drop]
     · refine bD.r9 (by have:=aq.length;simp[this]) λj a aG=>?_
       rw[List.getElem?_take] at aG⊢
       split at aG
       · rename_i JN
         rw[if_pos JN]
         rw[List.getElem?_drop] at aG⊢
         exact aq.get aG
       · cases aG
   · cases h
 · rename_i _ aH
   rw[lE] at h
   obtain⟨u,hu,ah⟩:=aq.get h
   refine⟨u,?_,ah⟩
   simp[part,qg aH,hu]
 · cases h
theorem JO(af:a8 μ H w){t:TypeId}{aP:Array Field}{fd:Field}{f:Nat}(hu:P.underlying t=some (.struct aP))(hf:aP[f]? =some fd){cs:List I}{bf:Value}(U:aS μ (.agg cs) bf){v:I}
  (h:kJ P fd.type cs fd.offset=some v):dW P μ H w (Instr.field t bf f) v H:=by
 obtain⟨l,rfl,aq⟩:=U
 obtain⟨u,h1,aa⟩:=oV (P:=P) (w:=w) aq h
 exact .same af (v':=u) (by simp[Instr.field,bt hu,hf,asAgg,h1]) aa
theorem JP(af:a8 μ H w){s:TypeId}{aP:Array Field}{fd:Field}{f n b off:Nat}(hu:P.underlying s=some (.struct aP))(hf:aP[f]? =some fd)(aB:cG P fd.type=some n)(ug:n≠0){bf:Value}
  (U:aS μ (.ptr b off) bf):dW P μ H w (Instr.fieldAt s bf f) (.ptr b (off+fd.offset)) H:=by
 obtain⟨i,ag,rfl⟩:=U
 refine .same af (v':=.pointer (some ⟨i.aT,i.base+(off+fd.offset),none⟩)) ?_ ⟨i,ag,rfl⟩
 simp[Instr.fieldAt,bt hu,hf,Instr.sureAddr,fieldPlace,run_sizeOf aB,ug,add_plain,Nat.add_assoc]
theorem JQ(af:a8 μ H w){t e:TypeId}{b off n k sz:Nat}{c:cy}{cz:IntKind}(hu:P.underlying t=some (.slice e))(ae:cG P e=some sz){bf:Value}(U:aS μ (.slice b off n c) bf)(hk:k<n):
  dW P μ H w (Instr.indexAt t bf (.int cz (k:Int))) (.ptr b (off+k*sz)) H:=by
 obtain⟨i,ag,ab⟩:=U
 have jn:∃cap,bf=.slice (some ⟨i.aT,i.base+off,none⟩) n cap:=by
  cases c with
  |exact c=>exact⟨c,ab⟩
  |aE e1=>obtain⟨c,h,_⟩:=ab;exact⟨c,h⟩
  |dead=>obtain⟨ay,_⟩:=ab;omega
 obtain⟨cap,rfl⟩:=jn
 refine .same af (v':=.pointer (some ⟨i.aT,i.base+(off+k*sz),none⟩)) ?_ ⟨i,ag,rfl⟩
 simp only[Instr.indexAt,asIntOf,Sem.run_bind,Sem.run_pure,Result.andThen_ok,bt hu]
 rw[if_pos ⟨by omega,by omega⟩]
 simp[run_sizeOf ae,add_plain,Nat.add_assoc]
theorem JR(af:a8 μ H w){t e:TypeId}{b off n k sz:Nat}{cz:IntKind}(hu:P.underlying t=some (.array n e))(ae:cG P e=some sz){bf:Value}(U:aS μ (.ptr b off) bf)(hk:k<n):
  dW P μ H w (Instr.indexAt t bf (.int cz (k:Int))) (.ptr b (off+k*sz)) H:=by
 obtain⟨i,ag,rfl⟩:=U
 refine .same af (v':=.pointer (some ⟨i.aT,i.base+(off+k*sz),none⟩)) ?_ ⟨i,ag,rfl⟩
 simp only[Instr.indexAt,asIntOf,Sem.run_bind,Sem.run_pure,Result.andThen_ok,bt hu,Instr.sureAddr]
 rw[if_pos ⟨by omega,by omega⟩]
 simp[run_sizeOf ae,add_plain,Nat.add_assoc]
theorem JS(af:a8 μ H w){t e:TypeId}{n k sz:Nat}{cz:IntKind}{cs:List I}(hu:P.underlying t=some (.array n e))(ae:cG P e=some sz){bf:Value}(U:aS μ (.agg cs) bf)(hk:k<n){v:I}
  (h:kJ P e cs (k*sz)=some v):dW P μ H w (Instr.index t bf (.int cz (k:Int))) v H:=by
 obtain⟨l,rfl,aq⟩:=U
 obtain⟨u,h1,aa⟩:=oV (P:=P) (w:=w) aq h
 refine .same af (v':=u) ?_ aa
 simp only[Instr.index,asIntOf,Sem.run_bind,Sem.run_pure,Result.andThen_ok,bt hu]
 rw[if_pos ⟨by omega,by omega⟩]
 simp[run_sizeOf ae,h1]
theorem JT(af:a8 μ H w){t:TypeId}{k:Nat}{cz:IntKind}{s:List UInt8}(hu:P.underlying t=some .string){bf:Value}(U:aS μ (.str s) bf){c:UInt8}(h:nth k s=some c):
  dW P μ H w (Instr.index t bf (.int cz (k:Int))) (.int .u8 (Int.ofNat c.toNat)) H:=by
 obtain⟨bs,rfl,rfl⟩:=U
 rw[lE] at h
 refine .same af (v':=.int .u8 (c.toNat:Int)) ?_ rfl
 have hk:k<bs.data.size:=by
  rcases Nat.lt_or_ge k bs.data.size with ai|ai
  · exact ai
  · rw[List.getElem?_eq_none (by simpa using ai)] at h;cases h
 have aj:bs[k]? =some c:=by
  rw[Array.getElem?_toList] at h
  rw[<-h]
  show(if h:k<bs.size then some bs[k] else none)=_
  have eh:k<bs.size:=hk
  rw[dif_pos eh,Array.getElem?_eq_getElem hk];rfl
 simp only[Instr.index,asIntOf,Sem.run_bind,Sem.run_pure,Result.andThen_ok,bt hu]
 rw[if_pos (by omega)]
 simp[aj]
end
end aU
namespace aU
open Go
section
variable {P:Program} {μ:aW} {H:J} {w:World}
theorem wX(μ:aW):∀l:List UInt8,bD μ (cI l) (l.map λb=>.int .u8 b.toNat)
 |[]=>rfl
 |b::l=>⟨_,_,rfl,rfl,wX μ l⟩
theorem JU(t:ByteArray):(t.extract 0 t.size)=t:=by
 obtain⟨d⟩:=t
 simp[ByteArray.ext_iff,ByteArray.data_extract,ByteArray.size]
theorem wY(af:a8 μ H w){size n:Nat}{x:I}{bf:Value}(U:aS μ x bf){cs:List I}(h:hz H size x=some (n,cs)):
  (Builtin.lenOf bf).run P w=.ok n w/\(∃us:List Value,(Builtin.firstCells size n bf).run P w=.ok ⟨us⟩ w/\bD μ cs us):=by
 cases x<;>simp only[hz] at h<;>try cases h
 · split at h<;>try cases h
   obtain⟨bs,rfl,rfl⟩:=U
   refine⟨by rw[show bs.data.toList.length=bs.size from Array.length_toList];rfl,_,?_,wX μ _⟩
   have bg:bs.data.toList.length=bs.size:=Array.length_toList
   simp only[Builtin.firstCells,Sem.run_pure,bg,JU]
   congr 1
   apply Array.ext'
   simp
 · cases U
   exact⟨rfl,[],rfl,rfl⟩
 · rename_i b off len cap
   obtain⟨i,ag,ab⟩:=U
   cases cap with
   |dead=>
    obtain⟨rfl,a,c,rfl⟩:=ab
    simp at h
    obtain⟨rfl,rfl⟩:=h
    exact⟨rfl,[],by simp[Builtin.firstCells,_root_.Go.loadCells,loadCellsFrom],rfl⟩
   |exact c=>
    cases ab
    simp only at h
    split at h
    · rename_i bq aq
      cases h
      obtain⟨us,h1,aa⟩:=oM (P:=P) af ag aq
      exact⟨rfl,us,by simp only[Builtin.firstCells];exact h1,aa⟩
    · cases h
   |aE e1=>
    obtain⟨c,rfl,_⟩:=ab
    simp only at h
    split at h
    · rename_i bq aq
      cases h
      obtain⟨us,h1,aa⟩:=oM (P:=P) af ag aq
      exact⟨rfl,us,by simp only[Builtin.firstCells];exact h1,aa⟩
    · cases h
theorem JV{z:Value}(n:Nat){lJ:List I}(aL:bD μ lJ z.cells.toList):bD μ (fc n lJ) (Builtin.zeroCells z.cells n).toList:=by
 have:=tZ aL rfl n
 have aq:=aL.length
 have ao:z.cells.toList.length=z.cells.size:=by simp
 rw[aq,ao] at this
 exact this
theorem JW(need old:Nat)(h:old<need):Builtin.nextslicecap need old<=4*need+2048:=by
 unfold Builtin.nextslicecap
 split
 · omega
 · split
   · omega
   · have aj:∀rounds c,c<=2*need+768->(∀k,k<=rounds->True)->Builtin.growBy need rounds c<=4*need+2048:=by
       intro rounds
       induction rounds with
       |zero=>intro c ab _;simp only[Builtin.growBy];omega
       |succ r a7=>
        intro c ab _
        simp only[Builtin.growBy]
        split
        · omega
        · rename_i bN
          exact a7 _ (by omega) (λ_ _=>trivial)
     exact aj 4 old (by omega) (λ_ _=>trivial)
theorem a8.JX{w':World}(h:a8 μ H w){b:Nat}{o o':b2}{i:fl}(ad:H.get b=some o)(gb:o.ml=false)(ag:μ b=some i)
  (ae:w'.heap.size=w.heap.size)(aN:∀r,r≠i.aT->w'.heap[r]? =w.heap[r]?)(tT:w'.os=w.os)(zl:w'.output=w.output)(zm:w'.tape=w.tape)(base sz:Nat)
  (ah:jl (eJ μ H.n ⟨i.aT,base,sz⟩) o' ⟨i.aT,base,sz⟩ w')(hdr:w.drawn<=w'.drawn:=by first|exact Nat.le_refl _|assumption):
  a8 (eJ μ H.n ⟨i.aT,base,sz⟩) ((H.set b none).push o') w'/\bE μ H w (eJ μ H.n ⟨i.aT,base,sz⟩) ((H.set b none).push o') w':=by
 have hle:=h.mn ⟨i.aT,base,sz⟩
 have zv:b<H.n:=(h.lt b i ag).1
 have sa:H.get b≠none:=by rw[ad];simp
 have eL:∀c,((H.set b none).push o').get c=if c=H.n then some o' else if c=b then none else H.get c:=λc=>by
  rw[J.fO,J.cv];rfl
 have nQ:∀c,c<H.n->((H.set b none).push o').get c≠none->c≠b/\H.get c≠none:=λc ab aB=>by
  rw[eL,if_neg (by omega)] at aB
  by_cases e:c=b
  · rw[if_pos e] at aB;exact absurd rfl aB
  · rw[if_neg e] at aB;exact⟨e,aB⟩
 constructor
 · refine⟨λc oJ j ab aG=>?_,λc d j k ab al aG hk e=>?_,λc j aG=>?_,λc ab=>?_⟩
   · rw[eL] at ab
     by_cases e:c=H.n
     · rw[if_pos e] at ab;subst e;cases ab;rw[e5] at aG;cases aG;exact ah
     · rw[if_neg e] at ab;rw[fP _ _ e] at aG
       by_cases ar:c=b
       · rw[if_pos ar] at ab;cases ab
       · rw[if_neg ar] at ab
         exact(h.rel c oJ j ab aG).mono hle (aN _ λb_=>ar (h.inj c b j i (by rw[ab];simp) ⟨o,ad,gb⟩ aG ag b_))
   · have side:∀c j,c≠H.n->((H.set b none).push o').get c≠none->eJ μ H.n ⟨i.aT,base,sz⟩ c=some j->j.aT≠i.aT:=λc j wZ ab aG e=>by
       rw[fP _ _ wZ] at aG
       obtain⟨aK,a_⟩:=nQ c (h.lt c j aG).1 ab
       exact aK (h.inj c b j i a_ ⟨o,ad,gb⟩ aG ag e)
     by_cases aw:c=H.n
     · by_cases ar:d=H.n
       · rw[aw,ar]
       · subst aw;rw[e5] at aG;cases aG
         exact absurd e.symm (side d k ar (by obtain⟨x,U,_⟩:=al;rw[U];simp) hk)
     · by_cases ar:d=H.n
       · subst ar;rw[e5] at hk;cases hk
         exact absurd e (side c j aw ab aG)
       · rw[fP _ _ aw] at aG;rw[fP _ _ ar] at hk
         exact h.inj c d j k (nQ c (h.lt c j aG).1 ab).2 (by
          obtain⟨x,U,tU⟩:=al
          rw[eL,if_neg ar] at U
          split at U
          · cases U
          · exact⟨x,U,tU⟩) aG hk e
   · by_cases e:c=H.n
     · subst e;rw[e5] at aG;cases aG
       have:=(h.lt b i ag).2
       exact⟨by simp,by rw[ae];exact this⟩
     · rw[fP _ _ e] at aG
       have:=h.lt c j aG
       exact⟨by simp;omega,by rw[ae];exact this.2⟩
   · simp at ab
     rw[eL,if_neg (by omega),if_neg (by omega)];exact h.bound c (by omega)
 · refine⟨hle,by omega,by simp,λc ab aB=>(nQ c ab aB).2,λc ab hm=>(by rw[eL,if_neg (by omega),if_neg];intro e;subst e;rw[ag] at hm;cases hm),λr _ aB=>aN r λe=>aB b i sa ag e.symm,λc j h1 aa=>?_,λc oJ j ab oK aG=>?_,tT,zl,zm,hdr⟩
   · by_cases e:c=H.n
     · subst e;rw[e5] at aa;cases aa
       exact⟨Nat.le_refl _,.inr ⟨b,o,i,ad,gb,ag,rfl⟩⟩
     · rw[fP _ _ e,h1] at aa;cases aa
   · have cj:c≠b:=by intro e;subst e;rw[ad] at ab;cases ab;rw[gb] at oK;cases oK
     have wZ:=(h.lt c j aG).1
     refine⟨by rw[eL,if_neg (by omega),if_neg cj];exact ab,aN _ λe=>cj (h.inj c b j i (by rw[ab];simp) ⟨o,ad,gb⟩ aG ag e)⟩
theorem a8.kill(h:a8 μ H w){b:Nat}{o:b2}{i:fl}(ad:H.get b=some o)(gb:o.ml=false)(ag:μ b=some i):
  a8 μ (H.set b none) w/\bE μ H w μ (H.set b none) w:=by
 have nQ:∀c,(H.set b none).get c≠none->H.get c≠none:=λc aB=>by
  rw[J.cv] at aB
  by_cases e:c=b
  · rw[if_pos e] at aB;exact absurd rfl aB
  · rw[if_neg e] at aB;exact aB
 constructor
 · refine⟨λc oJ j ab aG=>?_,λc d j k ab al=>h.inj c d j k (nQ c ab) (by
     obtain⟨x,U,tU⟩:=al
     rw[J.cv] at U
     split at U
     · cases U
     · exact⟨x,U,tU⟩),h.lt,λc ab=>?_⟩
   · rw[J.cv] at ab
     by_cases e:c=b
     · rw[if_pos e] at ab;cases ab
     · rw[if_neg e] at ab;exact h.rel c oJ j ab aG
   · rw[J.cv]
     split
     · rfl
     · exact h.bound c ab
 · refine⟨dm.refl μ,Nat.le_refl _,Nat.le_refl _,λc _ ab=>nQ c ab,λc _ hm=>(by rw[J.cv,if_neg];intro e;subst e;rw[ag] at hm;cases hm),λ_ _ _=>rfl,λc j h1 aa=>(by rw[h1] at aa;cases aa),λc oJ j ab oK aG=>⟨?_,rfl⟩,rfl,rfl,rfl,Nat.le_refl _⟩
   have cj:c≠b:=by intro e;subst e;rw[ad] at ab;cases ab;rw[gb] at oK;cases oK
   rw[J.cv,if_neg cj];exact ab
theorem a8.drew(h:a8 μ H w):a8 μ H w.drew:=h.of_heap rfl
theorem bE.drew:bE μ H w μ H w.drew:=bE.of_heap rfl rfl rfl rfl
theorem JY{need bytes:Nat}(h:iD need bytes=true):(4*need+2048)*bytes<=281474976710656/\need<=281474976710656:=by
 simp only[iD,Nat.ble_eq] at h
 have h1:(4*need+2048)*bytes<=(4*need+2048)*(bytes+1):=Nat.mul_le_mul_left _ (by omega)
 have aa:(4*need+2048)*1<=(4*need+2048)*(bytes+1):=Nat.mul_le_mul_left _ (by omega)
 refine⟨Nat.le_trans h1 h,?_⟩
 have ao:=Nat.le_trans aa h
 rw[Nat.mul_one] at ao
 generalize 281474976710656=q at ao⊢
 omega
theorem JZ{sT e:TypeId}{xT:Option TypeId}{i:TypeInfo}{z:Value}{argTypes:Array TypeId}{ty:TypeId}(ay:argTypes[0]? =some sT)(h1:argTypes[1]? =xT)(hu:P.underlying sT=some (.slice e))(U:l_ P xT=true)(ag:P.info? e=some i)
  (aL:∀w:World,(zeroValue e).run P w=.ok z w){base:Option Addr}{sLen sCap n:Nat}{bf:Value}(aq:(Builtin.lenOf bf).run P w=.ok n w){us old:List Value}(hold:(Builtin.firstCells i.size sLen (.slice base sLen sCap)).run P w.drew=.ok ⟨old⟩ w.drew)
  (oW:(Builtin.firstCells i.size n bf).run P w.drew=.ok ⟨us⟩ w.drew)(bN:sCap<sLen+n)(lM:iD (sLen+n) i.bytes=true):
  ∃kf,sLen+n<=kf/\(Builtin.append_ argTypes ty #[.slice base sLen sCap,bf]).run P w=
   .ok (.slice (some ⟨w.heap.size,0,none⟩) (sLen+n) kf) (w.drew.alloc (.cells (⟨old⟩++⟨us⟩++Builtin.zeroCells z.cells (kf-(sLen+n))) e)):=by
 obtain⟨m1,m2⟩:=JY lM
 have zw:=JW (sLen+n) sCap bN
 have sc:¬(Builtin.nextslicecap (sLen+n) sCap*i.bytes>2^48):=by
  have h1:Builtin.nextslicecap (sLen+n) sCap*i.bytes<=(4*(sLen+n)+2048)*i.bytes:=Nat.mul_le_mul_right _ zw
  have aa:(2:Nat)^48=281474976710656:=by rfl
  rw[aa]
  exact Nat.not_lt.2 (Nat.le_trans h1 m1)
 have J0:IntKind.max .i64=9223372036854775807:=rfl
 have w0:¬(((sLen+n:Nat):Int)>IntKind.i64.max):=by rw[J0];omega
 have Dl:¬(sLen+n<=sCap):=by omega
 have bg:∀w:World,(_root_.Go.sizeOf e).run P w=.ok i.size w:=λw=>by simp[_root_.Go.sizeOf,run_typeInfo ag]
 have w1:(Question.appendCap (sLen+n) sCap e).forced=false:=rfl
 have w2:∀w:World,(typeInfo e).run P w=.ok i w:=λw=>run_typeInfo ag
 have w3:∀(c:Nat) (cs:Array Value),(_root_.Go.newRow e cs).run P w.drew=.ok ⟨w.heap.size,0,none⟩ (w.drew.alloc (.cells cs e)):=λc cs=>rfl
 refine⟨(Question.appendCap (sLen+n) sCap e).cut (w.tape w.drawn (Question.appendCap (sLen+n) sCap e)),by simp[Question.cut],?_⟩
 cases xT with
 |none=>
  simp only[Builtin.append_,ay,h1,List.getElem?_toArray,List.getElem?_cons_zero,List.getElem?_cons_succ,Sem.run_bind,bt hu,Result.andThen_ok,bg,Sem.run_pure,aq,Bool.false_eq_true,if_false,if_neg Dl,w2,w0,false_and,if_neg sc,
   run_choose,w1,run_askRoom,World.drew_eq,hold,oW,Bool.not_false,if_true,aL,w3 0]
 |some zx=>
  simp only[l_] at U
  cases al:P.underlying zx with
  |none=>rw[al] at U;cases U
  |some d=>
   rw[al] at U
   cases d<;>first
   |(cases U;done)
   |simp only[Builtin.append_,ay,h1,List.getElem?_toArray,List.getElem?_cons_zero,List.getElem?_cons_succ,Sem.run_bind,bt hu,bt al,Result.andThen_ok,bg,Sem.run_pure,aq,Bool.false_eq_true,if_false,if_neg Dl,w2,w0,false_and,if_neg sc,
    run_choose,w1,run_askRoom,World.drew_eq,hold,oW,Bool.not_false,if_true,aL,w3 0]
theorem uh{sT e:TypeId}{xT:Option TypeId}{i:TypeInfo}{argTypes:Array TypeId}{ty:TypeId}(ay:argTypes[0]? =some sT)(h1:argTypes[1]? =xT)(hu:P.underlying sT=some (.slice e))(U:l_ P xT=true)(ag:P.info? e=some i)
  {base:Option Addr}{sLen sCap n:Nat}{bf:Value}(aq:(Builtin.lenOf bf).run P w=.ok n w){us:List Value}
  (oW:(Builtin.firstCells i.size n bf).run P w=.ok ⟨us⟩ w)(hle:sLen+n<=sCap):
  (Builtin.append_ argTypes ty #[.slice base sLen sCap,bf]).run P w=match base with
   |some a=>((_root_.Go.storeCells (a.add (sLen*i.size)) us).run P w).andThen λ_ w'=>.ok (.slice base (sLen+n) sCap) w'
   |none=>.ok (.slice base (sLen+n) sCap) w:=by
 have bg:∀w:World,(_root_.Go.sizeOf e).run P w=.ok i.size w:=λw=>by simp[_root_.Go.sizeOf,run_typeInfo ag]
 cases xT with
 |none=>
  cases base<;>simp only[Builtin.append_,ay,h1,List.getElem?_toArray,List.getElem?_cons_zero,List.getElem?_cons_succ,Sem.run_bind,bt hu,Result.andThen_ok,bg,Sem.run_pure,aq,Bool.false_eq_true,if_false,if_pos hle,Bool.not_false,if_true,oW]
 |some zx=>
  simp only[l_] at U
  cases al:P.underlying zx with
  |none=>rw[al] at U;cases U
  |some d=>
   rw[al] at U
   cases d<;>first
   |(cases U;done)
   |cases base<;>simp only[Builtin.append_,ay,h1,List.getElem?_toArray,List.getElem?_cons_zero,List.getElem?_cons_succ,Sem.run_bind,bt hu,bt al,Result.andThen_ok,bg,Sem.run_pure,aq,Bool.false_eq_true,if_false,if_pos hle,Bool.not_false,if_true,oW]
theorem J1{l:List I}(h:l.all I.cL=true):∀a∈l,a.cL=true:=λa aH=>List.all_eq_true.1 h a aH
theorem zy(af:a8 μ H w){sT e:TypeId}{xT:Option TypeId}{i:TypeInfo}{z:I}{argTypes:Array TypeId}{ty:TypeId}(ay:argTypes[0]? =some sT)(h1:argTypes[1]? =xT)(hu:P.underlying sT=some (.slice e))(U:l_ P xT=true)
  (ag:P.info? e=some i)(aL:dV P e=some z){base:Option Addr}{sLen sCap n:Nat}{x:I}{bf:Value}(Dm:aS μ x bf){cs:List I}(fs:hz H i.size x=some (n,cs)){old:List I}
  (hold:∃us:List Value,(Builtin.firstCells i.size sLen (.slice base sLen sCap)).run P w.drew=.ok ⟨us⟩ w.drew/\bD μ old us)(ui:old.length=sLen*i.size)(c9:cs.length=n*i.size)(bN:sCap<sLen+n){v:I}{H1 ax:J}(ga:a8 μ H1 w)(J2:bE μ H w μ H1 w)
  {fz:Nat}(aj:ma H1 e i.bytes i.size (sLen+n) z (old++cs) fz=some (v,ax)):dW P μ H w (Builtin.append_ argTypes ty #[.slice base sLen sCap,bf]) v ax:=by
 obtain⟨ep,Dn,rfl,ad⟩:=kb (P:=P) (w:=w) aL
 have J3:∀w:World,(zeroValue e).run P w=.ok ep w:=λw=>by
  unfold dV at aL
  simp only[ag] at aL
  cases Dp:i.zero with
  |none=>rw[Dp] at aL;cases aL
  |some z0=>
   have aK:∀w:World,(zeroValue e).run P w=.ok z0 w:=λw=>by simp[zeroValue,run_typeInfo ag,Dp]
   rw[aK] at Dn
   cases Dn
   exact aK w
 obtain⟨aq,us,kg,jN⟩:=wY (P:=P) af Dm fs
 obtain⟨_,mr,J4,Dq⟩:=wY (P:=P) af.drew Dm fs
 obtain⟨os,tT,Dr⟩:=hold
 unfold ma at aj
 split at aj
 · rename_i ab
   simp only[Bool.and_eq_true] at ab
   obtain⟨⟨lM,mX⟩,dn⟩:=ab
   cases aj
   obtain⟨kf,uj,J5⟩:=JZ (P:=P) (w:=w) (ty:=ty) ay h1 hu U ag J3 aq tT J4 bN lM
   have lN:=(iG μ ep).cells ad
   have J6:=Nat.eq_of_beq_eq_true mX
   have J7:ep.cells.size=i.size:=by have:=lN.length;rw[J6] at this;simpa using this.symm
   have J8:bD μ (old++cs) (os++mr):=Dr.append Dq
   have J9:os.length=sLen*i.size:=by rw[<-Dr.length,ui]
   have J_:mr.length=n*i.size:=by rw[<-Dq.length,c9]
   have hmul:(sLen+n)*i.size=sLen*i.size+n*i.size:=Nat.add_mul _ _ _
   have Ds:kf*i.size=(sLen+n)*i.size+(kf-(sLen+n))*i.size:=by rw[<-Nat.add_mul,Nat.add_sub_of_le uj]
   have zz:0+kf*i.size=((⟨os⟩:Array Value)++⟨mr⟩++Builtin.zeroCells ep.cells (kf-(sLen+n))).size:=by
    have aK:(⟨os⟩:Array Value).size=sLen*i.size:=J9
    have a_:(⟨mr⟩:Array Value).size=n*i.size:=J_
    have bO:(Builtin.zeroCells ep.cells (kf-(sLen+n))).size=(kf-(sLen+n))*i.size:=by
     unfold Builtin.zeroCells;rw[Array.size_map,Array.size_range,J7]
    rw[Array.size_append,Array.size_append,aK,a_,bO,Ds,hmul]
    omega
   have hle:=ga.drew.mn ⟨w.heap.size,0,kf*i.size⟩
   obtain⟨aX,bx⟩:=ga.drew.alloc (.cells (old++cs) e .aE 0 fz) (.cells (⟨os⟩++⟨mr⟩++Builtin.zeroCells ep.cells (kf-(sLen+n))) e) (kf*i.size)
    ⟨_,0,0,World.heap_alloc_new _ _,λj a aG=>by
      obtain⟨u,mo,ah⟩:=J8.get aG
      refine⟨u,?_,ah.mono hle⟩
      have nT:j<(os++mr).length:=by
       rcases Nat.lt_or_ge j (os++mr).length with h|h
       · exact h
       · rw[List.getElem?_eq_none h] at mo;cases mo
      rw[Nat.zero_add,Array.getElem?_append_left (by simpa using nT)]
      simpa using mo,zz,by
      refine⟨?_,λj _ _ h=>by omega⟩
      simp[ui,c9];omega⟩
   refine⟨_,_,_,J5,⟨_,e5 _ _ _,kf,rfl,uj,by simp⟩,aX,?_⟩
   exact J2.trans af ga (bE.drew.trans ga ga.drew bx)
 · cases aj
end
end aU
