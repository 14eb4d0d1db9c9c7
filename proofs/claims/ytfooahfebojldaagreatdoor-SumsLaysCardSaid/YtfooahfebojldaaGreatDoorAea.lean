/-
  THE ABSTRACT EVALUATOR (the evaluator's definitions; values and memory): a deterministic semantics of loaded code, and the proof that its runs are runs of the program in the model, whatever the tape draws. No condition.
-/
import GoSem.Step
import Derived.Calls
import Derived.Laws.Sem
import Derived.Laws.World
set_option linter.unusedVariables false
set_option linter.unusedSimpArgs false
namespace aD
open Go
inductive b5 where
 |exact(n:Nat)
 |aY (gn:Nat)
 |dead
inductive I where
 |bad
 |bool (b:Bool)
 |int (k:IntKind) (n:Int)
 |str (s:List UInt8)
 |aR
 |ptr (b off:Nat)
 |a_
 |slice (b off len:Nat) (cap:b5)
 |g_
 |map (r:Nat)
 |fi
 |fn (f:Nat) (first aM:List I)
 |cc (l:Nat)
 |eO
 |iface (t:Nat) (v:I)
 |agg (cs:List I)
 |aW (vs:List I)
 deriving Inhabited
def I.bY:I->Bool
 |.bad|.agg _|.aW _=>false
 |_=>true
def I.cells:I->List I
 |.agg cs=>cs
 |v=>[v]
inductive hJ where
 |here|l (p:hJ)|r (p:hJ)
inductive aT where
 |leaf
 |node (l:aT) (v:I) (r:aT)
def vA:Nat->Nat->hJ
 |0,_=>.here
 |f+1,n=>match n with
  |0=>.here
  |m+1=>match Nat.mod m 2 with
   |0=>.l (vA f (Nat.div m 2))
   |_=>.r (vA f (Nat.div m 2))
def gO(n:Nat):hJ:=vA n n
def aT.get:hJ->aT->I
 |.here,.node _ v _=>v
 |.l p,.node l _ _=>get p l
 |.r p,.node _ _ r=>get p r
 |_,.leaf=>.bad
def aT.Bu(l:aT)(v:I)(r:aT):aT:=match l with
 |.leaf=>.node .leaf v r
 |.node a b c=>.node (.node a b c) v r
def aT.Bv(l:aT)(v:I)(r:aT):aT:=match r with
 |.leaf=>.node l v .leaf
 |.node a b c=>.node l v (.node a b c)
def aT.set:hJ->I->aT->aT
 |.here,x,.node l _ r=>.node l x r
 |.here,x,.leaf=>.node .leaf x .leaf
 |.l p,x,.node l v r=>aT.Bu (set p x l) v r
 |.l p,x,.leaf=>aT.Bu (set p x .leaf) .bad .leaf
 |.r p,x,.node l v r=>aT.Bv l v (set p x r)
 |.r p,x,.leaf=>aT.Bv .leaf .bad (set p x .leaf)
inductive eC where
 |own|aY|ro|fz
 deriving DecidableEq
structure fA where
 key:I
 val:I
 born:Nat
inductive b1 where
 |call (f:Nat) (args:List I)
 |collected (r:Nat)
inductive cx where
 |cells (cs:List I) (el:Nat) (k:eC) (bf ae:Nat)
 |map (es:List fA) (clock:Nat)
 |oi (s:List UInt8) (pos:Nat)
 |mapIter (m:Option Nat) (since:Nat) (seen:List Nat) (last:Nat)
 |loop (st:LoopState) (fL:Option Code) (fn:Nat) (l3:aT) (params:List Nat) (assign body:Code) (defers:Nat)
 |defrd (calls:Option (List b1))
 |raw (o:Obj)
inductive eP where
 |leaf
 |node (l:eP) (v:Option cx) (r:eP)
def eP.get:eP->Nat->Option cx
 |.leaf,_=>none
 |.node l v r,n=>match n with
  |0=>v
  |m+1=>match Nat.mod m 2 with
   |0=>get l (Nat.div m 2)
   |_=>get r (Nat.div m 2)
def eP.kr:Nat->eP->Nat->Option cx->eP
 |0,t,_,_=>t
 |f+1,.leaf,n,x=>match n with
  |0=>.node .leaf x .leaf
  |m+1=>match Nat.mod m 2 with
   |0=>.node (kr f .leaf (Nat.div m 2) x) none .leaf
   |_=>.node .leaf none (kr f .leaf (Nat.div m 2) x)
 |f+1,.node l v r,n,x=>match n with
  |0=>.node l x r
  |m+1=>match Nat.mod m 2 with
   |0=>.node (kr f l (Nat.div m 2) x) v r
   |_=>.node l v (kr f r (Nat.div m 2) x)
structure J where
 t:eP
 n:Nat
def J.get(h:J)(b:Nat):Option cx:=h.t.get b
def J.set(h:J)(b:Nat)(o:Option cx):J:=⟨eP.kr (b+1) h.t b o,h.n⟩
def J.push(h:J)(o:cx):J:=⟨eP.kr (h.n+1) h.t h.n (some o),h.n+1⟩
inductive fs where
 |val (v:I) (h:J)
 |b9 (v:I) (h:J)
 |call (f:Nat) (args:List I) (h:J)
 |cc (l:Nat) (args:List I) (h:J)
 |jG (d:b1)
 |rQ
 |fail (iy:String)
inductive an where
 |ret (v:I) (h:J)
 |b9 (v:I) (h:J)
 |fail (iy:String)
mutual
def nw:Value->I
 |.bool b=>.bool b
 |.int k n=>.int k n
 |.string s=>.str s.data.toList
 |.pointer none=>.aR
 |.slice none 0 0=>.a_
 |.map none=>.g_
 |.nilFunc=>.fi
 |.nilIface=>.eO
 |.agg ⟨cs⟩=>.agg (yw cs)
 |.tuple ⟨vs⟩=>.aW (yw vs)
 |_=>.bad
def yw:List Value->List I
 |[]=>[]
 |v::vs=>nw v::yw vs
end
def nth{α:Type}:Nat->List α->Option α
 |_,[]=>none
 |0,a::_=>some a
 |n+1,_::l=>nth n l
def takeN:Nat->List I->Option (List I)
 |0,_=>some []
 |_+1,[]=>none
 |n+1,a::l=>match takeN n l with
  |some r=>some (a::r)
  |none=>none
def hW{α:Type}:Nat->List α->List α
 |0,l=>l
 |_+1,[]=>[]
 |n+1,_::l=>hW n l
def cg:List UInt8->List UInt8->Bool
 |[],[]=>true
 |a::x,b::y=>match Nat.beq a.toNat b.toNat with
  |true=>cg x y
  |false=>false
 |_,_=>false
def dN:List UInt8->List UInt8->Bool
 |_,[]=>false
 |[],_::_=>true
 |a::x,b::y=>match Nat.beq a.toNat b.toNat with
  |true=>dN x y
  |false=>Nat.blt a.toNat b.toNat
def bC(x y:Int):Bool:=decide (x<y)
def dn(x y:Int):Bool:=decide (x<=y)
def a7(x y:Int):Bool:=x==y
def loadCells(h:J)(b off n:Nat):Option (List I):=
 match h.get b with
 |some (.cells cs _ _ _ _)=>takeN n (hW off cs)
 |_=>none
def aq(h:J)(b off:Nat):Option I:=
 match h.get b with
 |some (.cells cs _ _ _ _)=>nth off cs
 |_=>none
def jf(k:eC)(bf ae off n:Nat):Bool:=
 match k with
 |.ro|.fz=>false
 |_=>Nat.ble ae bf||Nat.ble (off+n) bf||Nat.ble ae off
def ff:Nat->List I->List I->Option (List I)
 |0,[],cs=>some cs
 |0,_::_,[]=>none
 |0,v::vs,_::cs=>match v.bY with
  |true=>match ff 0 vs cs with
   |some r=>some (v::r)
   |none=>none
  |false=>none
 |_+1,[],cs=>some cs
 |_+1,_::_,[]=>none
 |n+1,vs,c::cs=>match ff n vs cs with
  |some r=>some (c::r)
  |none=>none
def storeCells(h:J)(b off:Nat)(vs:List I):Option J:=
 match h.get b with
 |some (.cells cs el k bf ae)=>
  match jf k bf ae off vs.length with
  |true=>match ff off vs cs with
   |some b6=>some (h.set b (some (.cells b6 el k bf ae)))
   |none=>none
  |false=>none
 |_=>none
def newRow(h:J)(el:Nat)(cs:List I):Option (Nat×J):=
 match cs.all I.bY with
 |true=>some (h.n,h.push (.cells cs el .own 0 0))
 |false=>none
def l4(P:Program)(t:TypeId):Option Bool:=
 match P.underlying t with
 |some (.struct _)=>some true
 |some (.array _ _)=>some true
 |some _=>some false
 |none=>none
def dt(P:Program)(t:TypeId):Option Nat:=match P.info? t with
 |some i=>some i.size
 |none=>none
def ew(P:Program)(t:TypeId):Option I:=match P.info? t with
 |some i=>match i.zero with
  |some z=>match nw z with
   |.bad=>none
   |a=>some a
  |none=>none
 |none=>none
def kO(P:Program)(t:TypeId)(cs:List I)(off:Nat):Option I:=
 match l4 P t,dt P t with
 |some true,some n=>match takeN n (hW off cs) with
  |some r=>some (.agg r)
  |none=>none
 |some false,_=>nth off cs
 |_,_=>none
def jg(place:Nat->Option (Nat×Nat))(cells:List I):List (Nat×I)->Option (List I)
 |[]=>some cells
 |(i,v)::rest=>
  match v with
  |.bad=>none
  |v=>match place i with
   |none=>none
   |some (off,size)=>
    match Nat.beq v.cells.length size&&Nat.ble (off+size) cells.length with
    |true=>match ff off v.cells cells with
     |some Mr=>jg place Mr rest
     |none=>none
    |false=>none
def eT{α:Type}:Nat->List α->List α
 |0,_=>[]
 |n+1,l=>l++eT n l
def eqFields(P:Program)(E:TypeId->I->I->Option Bool)(xs ys:List I):List Field->Option Bool
 |[]=>some true
 |f::cu=>match decide (f.name= "_") with
  |true=>eqFields P E xs ys cu
  |false=>match kO P f.type xs f.offset,kO P f.type ys f.offset with
   |some a,some b=>match E f.type a b with
    |some true=>eqFields P E xs ys cu
    |r=>r
   |_,_=>none
def vB(P:Program)(E:TypeId->I->I->Option Bool)(e:TypeId)(sz:Nat)(xs ys:List I):Nat->Nat->Option Bool
 |0,_=>some true
 |n+1,i=>match kO P e xs (i*sz),kO P e ys (i*sz) with
  |some a,some b=>match E e a b with
   |some true=>vB P E e sz xs ys n (i+1)
   |r=>r
  |_,_=>none
def Bw(h:J)(a i b j:Nat):Option Bool:=
 match Nat.beq a b with
 |true=>some (Nat.beq i j)
 |false=>match h.get a,h.get b with
  |some (.cells _ _ .own 0 0),some (.cells _ _ .own 0 0)=>some false
  |_,_=>none
def hK(P:Program)(h:J):Nat->TypeId->I->I->Option Bool
 |0,_,_,_=>none
 |d+1,t,x,y=>
  match P.underlying t with
  |none=>none
  |some .bool=>match x,y with
   |.bool a,.bool b=>some (a==b)
   |_,_=>none
  |some (.int _)=>match x,y with
   |.int j a,.int k b=>if j=k then some (a7 a b) else none
   |_,_=>none
  |some .string=>match x,y with
   |.str a,.str b=>some (cg a b)
   |_,_=>none
  |some (.pointer e)=>match x,y with
   |.aR,.aR=>some true
   |.aR,.ptr _ _=>some false
   |.ptr _ _,.aR=>some false
   |.ptr a i,.ptr b j=>match dt P e with
    |some (_+1)=>Bw h a i b j
    |_=>none
   |_,_=>none
  |some (.slice _)=>match x,y with
   |.a_,.a_=>some true
   |.a_,.slice _ _ _ _=>some false
   |.slice _ _ _ _,.a_=>some false
   |_,_=>none
  |some (.map _ _)=>match x,y with
   |.g_,.g_=>some true
   |.g_,.map _=>some false
   |.map _,.g_=>some false
   |_,_=>none
  |some (.func _ _ _)=>match x,y with
   |.fi,.fi=>some true
   |.fi,.fn _ _ _=>some false
   |.fn _ _ _,.fi=>some false
   |_,_=>none
  |some (.interface _)=>match x,y with
   |.eO,.eO=>some true
   |.eO,.iface _ _=>some false
   |.iface _ _,.eO=>some false
   |.iface a v,.iface b w=>match Nat.beq a b with
    |false=>some false
    |true=>match P.info? a with
     |some i=>match i.comparable with
      |true=>hK P h d a v w
      |false=>none
     |none=>none
   |_,_=>none
  |some (.struct cu)=>match x,y with
   |.agg xs,.agg ys=>match P.stoodInHeld t with
    |true=>none
    |false=>eqFields P (hK P h d) xs ys cu.toList
   |_,_=>none
  |some (.array n e)=>match x,y with
   |.agg xs,.agg ys=>match dt P e with
    |some sz=>vB P (hK P h d) e sz xs ys n 0
    |none=>none
   |_,_=>none
  |some _=>none
def qn(P:Program)(t:TypeId)(x y:Operand)(a b:I):Bool:=
 match a,b with
 |.eO,.eO=>(x matches .const _)||(y matches .const _)
 |.agg _,.agg _=>!P.eqGuardType P.depth t
 |_,_=>true
def arith(op:BinOp)(k:IntKind)(x y:Int):Option I:=
 match op with
 |.add=>some (.int k (k.wrap (x+y)))
 |.sub=>some (.int k (k.wrap (x-y)))
 |.mul=>some (.int k (k.wrap (x*y)))
 |.quo=>if y=0 then none else some (.int k (k.wrap (x.tdiv y)))
 |.rem=>if y=0 then none else some (.int k (x.tmod y))
 |.and=>some (.int k (k.wrap (BitVec.ofInt k.bits x&&&BitVec.ofInt k.bits y).toNat))
 |.or=>some (.int k (k.wrap (BitVec.ofInt k.bits x|||BitVec.ofInt k.bits y).toNat))
 |.xor=>some (.int k (k.wrap (BitVec.ofInt k.bits x^^^BitVec.ofInt k.bits y).toNat))
 |.andNot=>some (.int k (k.wrap (BitVec.ofInt k.bits x&&& ~~~BitVec.ofInt k.bits y).toNat))
 |.eql=>some (.bool (a7 x y))
 |.neq=>some (.bool (!a7 x y))
 |.lss=>some (.bool (bC x y))
 |.leq=>some (.bool (dn x y))
 |.gtr=>some (.bool (bC y x))
 |.geq=>some (.bool (dn y x))
 |_=>none
def mP(op:BinOp)(k:IntKind)(x y:Int):Option I:=
 if y<0 then none else
 match op with
 |.shl=>some (.int k (k.wrap (x*2^(min y.toNat k.bits))))
 |.shr=>some (.int k (x.fdiv (2^(min y.toNat k.bits))))
 |_=>none
def eQ(op:BinOp)(x y:List UInt8):Option I:=
 match op with
 |.add=>if((x.length+y.length:Nat):Int)>IntKind.i64.max then none else some (.str (x++y))
 |.eql=>some (.bool (cg x y))
 |.neq=>some (.bool (!cg x y))
 |.lss=>some (.bool (dN x y))
 |.leq=>some (.bool (!dN y x))
 |.gtr=>some (.bool (dN y x))
 |.geq=>some (.bool (!dN x y))
 |_=>none
def c7(P:Program)(h:J)(op:BinOp)(t:TypeId)(j6 j7:Operand)(x y:I):Option I:=
 match x,y with
 |.int k a,.int dA b=>
  match op with
  |.shl|.shr=>mP op k a b
  |_=>if k=dA then arith op k a b else none
 |.str a,.str b=>eQ op a b
 |x,y=>
  match op with
  |.eql=>if qn P t j6 j7 x y then(match hK P h 100 t x y with
   |some b=>some (.bool b)
   |none=>none) else none
  |.neq=>if qn P t j6 j7 x y then(match hK P h 100 t x y with
   |some b=>some (.bool (!b))
   |none=>none) else none
  |_=>none
def fB:I->Option Nat
 |.int _ (.ofNat n)=>some n
 |_=>none
def jH(d:Nat):Option I->Option Nat
 |none=>some d
 |some v=>fB v
def bounds(len cap:Nat)(bf ae mx:Option I):Option (Nat×Nat×Nat):=
 match jH cap mx with
 |none=>none
 |some m=>match Nat.ble m cap with
  |false=>none
  |true=>match(match ae,mx with
     |none,none=>some len
     |none,some _=>none
     |some v,_=>fB v) with
   |none=>none
   |some ak=>match Nat.ble ak m with
    |false=>none
    |true=>match jH 0 bf with
     |none=>none
     |some l=>match Nat.ble l ak with
      |false=>none
      |true=>some (l,ak,m)
def fM(P:Program)(h:J)(t:TypeId)(x:I)(bf ae mx:Option I):Option I:=
 match P.underlying t,x with
 |some .string,.str s=>match mx with
  |some _=>none
  |none=>match bounds s.length s.length bf ae none with
   |some (l,ak,_)=>some (.str (List.take (ak-l) (hW l s)))
   |none=>none
 |some (.slice e),.a_=>match dt P e,bounds 0 0 bf ae mx with
  |some _,some _=>some .a_
  |_,_=>none
 |some (.slice e),.slice b off len (.exact cap)=>match dt P e,bounds len cap bf ae mx with
  |some sz,some (l,ak,m)=>some (.slice b (if m=l then off else off+l*sz) (ak-l) (.exact (m-l)))
  |_,_=>none
 |some (.slice e),.slice b off len (.aY gn)=>match dt P e with
  |some sz=>if sz=gn then(match mx with
   |none=>match bounds len len bf ae none with
    |some (l,ak,_)=>if l=0 then some (.slice b off ak (.aY gn)) else if Nat.blt l len then some (.slice b (off+l*sz) (ak-l) (.aY gn)) else some (.slice b off 0 .dead)
    |none=>none
   |some _=>match bounds len len bf ae mx with
    |some (l,ak,m)=>some (.slice b (if m=l then off else off+l*sz) (ak-l) (.exact (m-l)))
    |none=>none) else none
  |none=>none
 |some (.slice e),.slice b off len .dead=>match dt P e,bounds 0 0 bf ae mx with
  |some _,some _=>some (.slice b off 0 .dead)
  |_,_=>none
 |some (.array n e),.ptr b off=>match dt P e,bounds n n bf ae mx with
  |some sz,some (l,ak,m)=>some (.slice b (if m=l then off else off+l*sz) (ak-l) (.exact (m-l)))
  |_,_=>none
 |some (.pointer arr),.ptr b off=>match P.underlying arr with
  |some (.array n e)=>match dt P e,bounds n n bf ae mx with
   |some sz,some (l,ak,m)=>some (.slice b (if m=l then off else off+l*sz) (ak-l) (.exact (m-l)))
   |_,_=>none
  |_=>none
 |_,_=>none
def bU(P:Program)(h:J)(t:TypeId)(x:I):Option I:=
 match P.underlying t,x with
 |some .string,.str s=>some (.int .i64 (Int.ofNat s.length))
 |some (.array n _),_=>some (.int .i64 (Int.ofNat n))
 |some (.slice _),.slice _ _ n _=>some (.int .i64 (Int.ofNat n))
 |some (.slice _),.a_=>some (.int .i64 0)
 |some (.map _ _),.g_=>some (.int .i64 0)
 |some (.map _ _),.map r=>match h.get r with
  |some (.map es _)=>some (.int .i64 (Int.ofNat es.length))
  |_=>none
 |some (.pointer a),_=>match P.underlying a with
  |some (.array n _)=>some (.int .i64 (Int.ofNat n))
  |_=>none
 |_,_=>none
def yx(P:Program)(t:TypeId)(x:I):Option I:=
 match P.underlying t,x with
 |some (.array n _),_=>some (.int .i64 (Int.ofNat n))
 |some (.slice _),.slice _ _ _ (.exact n)=>some (.int .i64 (Int.ofNat n))
 |some (.slice _),.a_=>some (.int .i64 0)
 |_,_=>none
def c5:List UInt8->List I
 |[]=>[]
 |b::l=>.int .u8 (Int.ofNat b.toNat)::c5 l
def iK(h:J)(size:Nat):I->Option (Nat×List I)
 |.a_=>some (0,[])
 |.str s=>match size with
  |1=>some (s.length,c5 s)
  |_=>none
 |.slice b off len .dead=>if len=0 then some (0,[]) else none
 |.slice b off len _=>match loadCells h b off (len*size) with
  |some cs=>some (len,cs)
  |none=>none
 |_=>none
def ln(need bytes:Nat):Bool:=Nat.ble ((4*need+2048)*(bytes+1)) 281474976710656
def oj(P:Program):Option TypeId->Bool
 |none=>true
 |some t=>match P.underlying t with
  |some (.int _)=>false
  |some _=>true
  |none=>false
def ks(h:J)(e bytes size need:Nat)(z:I)(cs:List I)(fz:Nat):Option (I×J):=
 match ln need bytes&&Nat.beq z.cells.length size&&cs.all I.bY with
 |true=>some (.slice h.n 0 need (.aY size),h.push (.cells cs e .aY 0 fz))
 |false=>none
def gZ(P:Program)(h:J)(sT:TypeId)(xT:Option TypeId)(s x:I):Option (I×J):=
 match P.underlying sT,oj P xT with
 |some (.slice e),true=>
  match P.info? e,ew P e with
  |some i,some z=>
   match iK h i.size x with
   |none=>none
   |some (n,cs)=>
    match s with
    |.a_=>match n with
     |0=>some (.a_,h)
     |_=>ks h e i.bytes i.size n z cs 0
    |.slice b off len (.exact cap)=>
     match Nat.ble (len+n) cap with
     |true=>match n with
      |0=>some (.slice b off len (.exact cap),h)
      |_=>match storeCells h b (off+len*i.size) cs with
       |some al=>some (.slice b off (len+n) (.exact cap),al)
       |none=>none
     |false=>match loadCells h b off (len*i.size) with
      |some old=>ks h e i.bytes i.size (len+n) z (old++cs) 0
      |none=>none
    |.slice b off len (.aY gn)=>
     match Nat.beq gn i.size&&Nat.blt 0 gn with
     |true=>match n with
      |0=>some (s,h)
      |_=>match h.get b with
       |some (.cells old el .aY bf ae)=>
        match Nat.ble (off+(len+n)*gn) old.length with
        |true=>match storeCells h b (off+len*gn) cs with
         |some al=>some (.slice b off (len+n) (.aY gn),al)
         |none=>none
        |false=>match Nat.ble ae (off+len*gn)&&Nat.beq el e,loadCells h b off (len*gn) with
         |true,some o=>ks (h.set b none) e i.bytes i.size (len+n) z (o++cs) (ae-off)
         |_,_=>none
       |_=>none
     |false=>none
    |_=>none
  |_,_=>none
 |_,_=>none
def yy(P:Program)(h:J)(yz:TypeId)(d s:I):Option (I×J):=
 match P.underlying yz with
 |some (.slice e)=>match dt P e with
  |some sz=>match iK h sz s with
   |some (n,cs)=>match d with
    |.a_=>some (.int .i64 0,h)
    |.slice b off len _=>
     let m:=Nat.min n len
     if m=0 then some (.int .i64 0,h) else
     match takeN (m*sz) cs with
     |some b6=>match storeCells h b off b6 with
      |some al=>some (.int .i64 (Int.ofNat m),al)
      |none=>none
     |none=>none
    |_=>none
   |none=>none
  |none=>none
 |_=>none
def om(P:Program)(h:J)(t:TypeId)(x:I):Option (I×J):=
 match P.underlying t,x with
 |some (.map _ _),.g_=>some (.aW [],h)
 |some (.slice _),.a_=>some (.aW [],h)
 |some (.map _ _),.map r=>match h.get r with
  |some (.map _ c)=>some (.aW [],h.set r (some (.map [] c)))
  |_=>none
 |some (.slice e),.slice b off n _=>if n=0 then some (.aW [],h) else
  match ew P e with
  |some z=>match storeCells h b off (eT n z.cells) with
   |some al=>some (.aW [],al)
   |none=>none
  |none=>none
 |_,_=>none
def kt:I->I->Option I
 |.int k x,.int dA y=>if k=dA then some (.int k (if bC y x then y else x)) else none
 |_,_=>none
def vC:I->I->Option I
 |.int k x,.int dA y=>if k=dA then some (.int k (if bC x y then y else x)) else none
 |_,_=>none
def jh(f:I->I->Option I):I->List I->Option I
 |x,[]=>some x
 |x,y::l=>match f x y with
  |some z=>jh f z l
  |none=>none
def mQ:List I->Option (List UInt8)
 |[]=>some []
 |.int .u8 (.ofNat n)::l=>match Nat.blt n 256,mQ l with
  |true,some r=>some (UInt8.ofNat n::r)
  |_,_=>none
 |_=>none
def pk(P:Program)(h:J)(pT:TypeId)(p n:I):Option (I×J):=
 match p,fB n with
 |.aR,some 0=>some (.str [],h)
 |.ptr b off,some n=>if n=0 then some (.str [],h) else
  match P.underlying pT,h.get b with
  |some (.pointer u),some (.cells cs el k bf ae)=>
   if P.underlyingId el=P.underlyingId u&&dt P el=some 1&&Nat.ble n 281474976710656&&decide (k≠ .ro) then
    (match takeN n (hW off cs) with
    |some r=>match mQ r with
     |some bs=>some (.str bs,h.set b (some (.cells cs el .fz bf ae)))
     |none=>none
    |none=>none) else none
  |_,_=>none
 |_,_=>none
def oo(P:Program)(de:TypeId)(k:I):Bool:=
 match P.underlying de with
 |some (.int _)=>match k with
  |.int _ _=>true
  |_=>false
 |some .string=>match k with
  |.str _=>true
  |_=>false
 |some .bool=>match k with
  |.bool _=>true
  |_=>false
 |_=>false
def yA(P:Program)(cs:List I):List Field->Bool
 |[]=>true
 |f::cu=>match kO P f.type cs f.offset with
  |some a=>match oo P f.type a with
   |true=>yA P cs cu
   |false=>false
  |none=>false
def yB(P:Program)(e:TypeId)(sz:Nat)(cs:List I):Nat->Nat->Bool
 |0,_=>true
 |n+1,i=>match kO P e cs (i*sz) with
  |some a=>match oo P e a with
   |true=>yB P e sz cs n (i+1)
   |false=>false
  |none=>false
def oq(P:Program)(de:TypeId)(k:I):Bool:=
 match k with
 |.agg cs=>match P.underlying de with
  |some (.struct cu)=>yA P cs cu.toList
  |some (.array n e)=>match dt P e with
   |some sz=>yB P e sz cs n 0
   |none=>false
  |_=>false
 |k=>oo P de k
def pn:I->I->Option Bool
 |.int j a,.int k b=>if j=k then some (a7 a b) else none
 |.str a,.str b=>some (cg a b)
 |.bool a,.bool b=>some (a==b)
 |_,_=>none
def vD:List I->List I->Bool
 |[],[]=>true
 |a::l,b::m=>match pn a b with
  |some true=>vD l m
  |_=>false
 |_,_=>false
def qo(k x:I):Bool:=match k,x with
 |.agg a,.agg b=>vD a b
 |.agg _,_=>false
 |_,_=>true
def vE(P:Program)(h:J)(de:TypeId)(k x:I):Option Bool:=match k with
 |.agg cs=>hK P h 8 de (.agg cs) x
 |k=>pn k x
def ku(P:Program)(h:J)(de:TypeId)(k:I):List fA->Nat->Option (Option (Nat×I))
 |[],_=>some none
 |e::es,i=>match vE P h de k e.key with
  |some true=>some (some (i,e.val))
  |some false=>ku P h de k es (i+1)
  |none=>none
def vF(i:Nat)(es:List fA):I:=match nth i es with
 |some e=>e.key
 |none=>.bad
def rR(v:I)(key:I):Nat->List fA->List fA
 |_,[]=>[]
 |0,e::es=>⟨key,v,e.born⟩::es
 |n+1,e::es=>e::rR v key n es
def vG(P:Program)(hX:TypeId)(ok:Bool):Option (Nat×I)->Option I
 |some (_,v)=>some (if ok then .aW [v,.bool true] else v)
 |none=>match ew P hX with
  |some z=>some (if ok then .aW [z,.bool false] else z)
  |none=>none
def yC(P:Program)(h:J)(t:TypeId)(m k:I)(ok:Bool):Option I:=
 match P.underlying t with
 |some (.map de hX)=>match oq P de k with
  |true=>match m with
   |.g_=>vG P hX ok none
   |.map r=>match h.get r with
    |some (.map es _)=>match ku P h de k es 0 with
     |some r=>vG P hX ok r
     |none=>none
    |_=>none
   |_=>none
  |false=>none
 |_=>none
def tM(P:Program)(h:J)(t:TypeId)(m k v:I):Option J:=
 match P.underlying t with
 |some (.map de _)=>match oq P de k with
  |true=>match m with
   |.map r=>match h.get r with
    |some (.map es clock)=>match ku P h de k es 0 with
     |some (some (i,_))=>match qo k (vF i es) with
      |true=>some (h.set r (some (.map (rR v k i es) clock)))
      |false=>none
     |some none=>some (h.set r (some (.map (es++[⟨k,v,clock⟩]) (clock+1))))
     |none=>none
    |_=>none
   |_=>none
  |false=>none
 |_=>none
def yD(P:Program)(h:J)(t:TypeId)(m k:I):Option (I×J):=
 match P.underlying t with
 |some (.map de hX)=>match oq P de k with
  |true=>match m with
   |.map r=>match h.get r with
    |some (.map es clock)=>match ku P h de k es 0 with
     |some (some (i,v))=>match nth i es with
      |some e=>match qo k e.key with
       |true=>some (.aW [v,.int .i64 (Int.ofNat e.born)],h.set r (some (.map (rR v k i es) clock)))
       |false=>none
      |none=>none
     |some none=>match ew P hX with
      |some z=>some (.aW [z,.int .i64 (Int.ofNat clock)],h.set r (some (.map (es++[⟨k,z,clock⟩]) (clock+1))))
      |none=>none
     |none=>none
    |_=>none
   |_=>none
  |false=>none
 |_=>none
def vH(born:Int):List fA->Nat->Option (Nat×fA)
 |[],_=>none
 |e::es,i=>match a7 (Int.ofNat e.born) born with
  |true=>some (i,e)
  |false=>vH born es (i+1)
def yE(h:J)(m s v:I):Option J:=
 match m,s with
 |.map r,.int _ born=>match h.get r with
  |some (.map es clock)=>match vH born es 0 with
   |some (i,e)=>some (h.set r (some (.map (rR v e.key i es) clock)))
   |none=>none
  |_=>none
 |_,_=>none
def Bx:Nat->List fA->List fA
 |_,[]=>[]
 |0,_::es=>es
 |n+1,e::es=>e::Bx n es
def yF(P:Program)(h:J)(t:TypeId)(m k:I):Option (I×J):=
 match P.underlying t with
 |some (.map de _)=>match oq P de k with
  |true=>match m with
   |.g_=>some (.aW [],h)
   |.map r=>match h.get r with
    |some (.map es clock)=>match ku P h de k es 0 with
     |some (some (i,_))=>some (.aW [],h.set r (some (.map (Bx i es) clock)))
     |some none=>some (.aW [],h.set r (some (.map es clock)))
     |none=>none
    |_=>none
   |_=>none
  |false=>none
 |_=>none
def By(s:List UInt8):Nat×Nat:=Utf8.decode ⟨s.toArray⟩ 0
def yG(h:J)(it:I)(isStr:Bool):Option (I×J):=
 match it with
 |.ptr r 0=>match h.get r,isStr with
  |some (.oi s pos),true=>
   (match s with
   |[]=>some (.aW [.bool false],h)
   |s=>let(c,w):=By s
    some (.aW [.bool true,.int .i64 (Int.ofNat pos),.int .i32 (Int.ofNat c)],h.set r (some (.oi (hW w s) (pos+w)))))
  |some (.mapIter none _ _ _),false=>some (.aW [.bool false],h)
  |_,_=>none
 |_=>none
def vI(b:Nat):List fA->Option fA
 |[]=>none
 |e::l=>match Nat.beq e.born b with
  |true=>some e
  |false=>vI b l
def yH:List Nat->Option Nat
 |[]=>none
 |[b]=>some b
 |_::b::l=>yH (b::l)
def yI(h:J)(it:I):Option I:=
 match it with
 |.ptr r 0=>match h.get r with
  |some (.mapIter (some m) _ seen last)=>match h.get m,yH seen with
   |some (.map es clock),some b=>match Nat.beq clock last with
    |true=>match vI b es with
     |some e=>some (.aW [e.key,e.val])
     |none=>none
    |false=>none
   |_,_=>none
  |_=>none
 |_=>none
end aD
namespace aD
open Go
inductive bJ where
 |none|act (v:I)|done (v:I)
inductive bF where
 |nrm|exit (id:Nat)|ret|goto (l:Nat)|b9 (v:I)
inductive iL where
 |ok (e:bF) (r:aT) (d:List b1) (q:bJ) (h:J)
 |fail (iy:String)
inductive ay where
 |fn (f:Nat)|cc (l:Nat)
inductive Acc where
 |env (j:Nat)|reg (p:hJ)|val (v:I)
def dU(m:Nat)(env:List I)(r:aT):Acc->I
 |.env j=>(nth (m-1-j) env).getD .bad
 |.reg p=>r.get p
 |.val v=>v
def hY(t:Nat):List (Nat×Acc)->Option Acc
 |[]=>none
 |(u,a)::l=>match Nat.beq t u with
  |true=>some a
  |false=>hY t l
def cT(P:Program)(need:Nat)(loc:List (Nat×Acc)):Operand->Acc
 |.tmp t=>match hY t loc with
  |some a=>a
  |none=>match Nat.testBit need t with
   |true=>.reg (gO t)
   |false=>.val .bad
 |.const v=>.val (nw v)
 |.global g=>match Nat.blt g P.globals.size with
  |true=>.val (.ptr g 0)
  |false=>.val .bad
 |.func f=>.val (.fn f [] [])
def rS(f:I)(args:List I)(h:J):fs:=
 match f with
 |.fn g first aM=>.call g (first++args++aM) h
 |.cc l=>.cc l args h
 |_=>.fail "callVal"
def fC(h:J)(iy:String):Option I->fs
 |some v=>.val v h
 |none=>.fail iy
def kP(iy:String):Option (I×J)->fs
 |some (v,h)=>.val v h
 |none=>.fail iy
def po(iy:String):Option J->fs
 |some h=>.val (.aW []) h
 |none=>.fail iy
def kindName:I->String
 |.bad=> "bad" |.bool _=> "bool" |.int _ n=> "int" ++toString n|.str s=> "str" ++toString s.length|.aR=> "nilP" |.ptr b o=> "ptr" ++toString b++ "+" ++toString o|.a_=> "nilS" |.slice b o n c=> "slice" ++toString b++ "+" ++toString o++ "," ++toString n++(match c with|.exact k=> "x" ++toString k|.aY _=> "o" |.dead=> "d")
 |.g_=> "nilM" |.map _=> "map" |.fi=> "nilF" |.fn f _ _=> "fn" ++toString f|.cc _=> "yld" |.eO=> "nilI" |.iface t _=> "iface" ++toString t|.agg l=> "agg" ++toString l.length|.aW l=> "tup" ++toString l.length
def yJ(P:Program)(t:TypeId)(name:String):Option Nat:=
 match P.info? t with
 |some i=>match i.methods.find? (·.name==name) with
  |some m=>match m.path.isEmpty,m.func,P.underlying t with
   |true,some (f,true),some (.pointer _)=>some f
   |true,some (f,false),some (.pointer _)=>none
   |true,some (f,false),some _=>some f
   |_,_,_=>none
  |none=>none
 |none=>none
def hZ(P:Program)(b:Builtin)(ats:Array TypeId)(vs:List I)(h:J):fs:=
 match b with
 |.recover=>.rQ
 |.min=>match vs with
  |x::l=>fC h "min" (jh kt x l)
  |[]=>.fail "min"
 |.max=>match vs with
  |x::l=>fC h "max" (jh vC x l)
  |[]=>.fail "max"
 |b=>match ats[0]?,vs with
  |some t,[x]=>match b with
   |.len=>fC h ("len " ++kindName x) (bU P h t x)
   |.cap=>fC h "cap" (yx P t x)
   |.clear=>kP "clear" (om P h t x)
   |.unsafeSliceData=>match x with
    |.a_=>.val .aR h
    |.slice b off n (.exact c)=>if c=0 then .fail "SliceData" else .val (.ptr b off) h
    |.slice b off n (.aY _)=>if n=0 then .fail "SliceData" else .val (.ptr b off) h
    |_=>.fail "SliceData"
   |_=>.fail "builtin"
  |some t,[x,y]=>match b with
   |.append=>kP ("append " ++kindName x++ " " ++kindName y) (gZ P h t ats[1]? x y)
   |.copy=>kP "copy" (yy P h t x y)
   |.delete=>kP "delete" (yF P h t x y)
   |.unsafeString=>kP "usString" (pk P h t x y)
   |_=>.fail "builtin"
  |_,_=>.fail "builtin"
def eR(P:Program)(src dst:TypeId)(x:I)(h:J):fs:=
 match P.underlying src,P.underlying dst,x with
 |some (.int _),some (.int k),.int _ n=>.val (.int k (k.wrap n)) h
 |some (.int _),some .string,.int _ n=>.val (.str (Utf8.encode n).data.toList) h
 |some .string,some .string,.str s=>.val (.str s) h
 |some .string,some (.slice e),.str s=>match P.underlying e with
  |some (.int .u8)=>.val (.slice h.n 0 s.length (.aY 1)) (h.push (.cells (c5 s) e .aY 0 0))
  |_=>.fail "convert to runes"
 |some (.slice e),some .string,v=>match P.underlying e,v with
  |some (.int .u8),.a_=>.val (.str []) h
  |some (.int .u8),.slice b off n .dead=>if n=0 then .val (.str []) h else .fail "convert dead"
  |some (.int .u8),.slice b off n _=>match loadCells h b off n with
   |some cs=>match mQ cs with
    |some bs=>.val (.str bs) h
    |none=>.fail "convert bytes"
   |none=>.fail "convert bytes"
  |_,_=>.fail "convert slice to string"
 |some (.pointer u),some .unsafePointer,.ptr b off=>match h.get b,dt P u with
  |some (.cells cs _ _ _ _),some (_+1)=>if Nat.blt off cs.length then .val (.ptr b off) h else .fail "convert pointer"
  |_,_=>.fail "convert pointer"
 |some .unsafePointer,some (.pointer u),.ptr b off=>match h.get b,dt P u with
  |some (.cells cs el .own _ _),some (_+1)=>if liesAt P P.depth el (cs.length/P.cellsOf el) off u 1 then .val (.ptr b off) h else .fail "convert from pointer"
  |_,_=>.fail "convert from pointer"
 |_,_,v=>.fail ("convert " ++kindName v)
def cM(P:Program)(o:Oper)(g:Operand->I)(h:J):fs:=
 match o.op with
 |.move x|.assign x=>.val (g x) h
 |.pick c a b=>match g c with
  |.bool true=>.val (g a) h
  |.bool false=>.val (g b) h
  |_=>.fail "pick"
 |.alloc e=>match ew P e with
  |some z=>match newRow h e z.cells with
   |some (b,al)=>.val (.ptr b 0) al
   |none=>.fail "alloc"
  |none=>.fail "alloc"
 |.box e x=>match newRow h e (g x).cells with
  |some (b,al)=>.val (.ptr b 0) al
  |none=>.fail "box"
 |.build t parts=>match ew P t with
  |some z=>match P.underlying t with
   |some (.struct cu)=>match cu.toList.all (λf=>(dt P f.type).isSome),jg (λi=>(cu[i]?).map λf=>(f.offset,P.cellsOf f.type)) z.cells (parts.toList.map λp=>(p.1,g p.2)) with
    |true,some cs=>.val (.agg cs) h
    |_,_=>.fail "build"
   |some (.array _ e)=>match dt P e with
    |some sz=>match jg (λi=>some (i*sz,sz)) z.cells (parts.toList.map λp=>(p.1,g p.2)) with
     |some cs=>.val (.agg cs) h
     |none=>.fail "build array"
    |none=>.fail "build"
   |_=>.fail "build"
  |none=>.fail "build"
 |.buildSlice t len parts=>match P.underlying t with
  |some (.slice e)=>match dt P e,ew P e with
   |some sz,some z=>match Nat.ble (len*sz) 16777216&&Nat.beq z.cells.length sz,jg (λi=>some (i*sz,sz)) (if len*sz=0 then[] else eT len z.cells) (parts.toList.map λp=>(p.1,g p.2)) with
    |true,some cs=>match newRow h e cs with
     |some (b,al)=>.val (.slice b 0 len (.exact len)) al
     |none=>.fail "buildSlice"
    |_,_=>.fail "buildSlice"
   |_,_=>.fail "buildSlice"
  |_=>.fail "buildSlice"
 |.insert t m k v=>po "insert" (tM P h t (g m) (g k) (g v))
 |.load t a=>match g a with
  |.ptr b off=>match l4 P t,dt P t with
   |some true,some n=>match loadCells h b off n with
    |some cs=>.val (.agg cs) h
    |none=>.fail ("load agg " ++toString b++ "+" ++toString off)
   |some false,_=>fC h ("load " ++toString b++ "+" ++toString off) (aq h b off)
   |_,_=>.fail "load"
  |v=>.fail ("load of " ++kindName v)
 |.store t a v=>match g a with
  |.ptr b off=>match g v,dt P t with
   |.bad,_=>.fail "store bad"
   |v,some n=>match Nat.beq v.cells.length n with
    |true=>po "store" (storeCells h b off v.cells)
    |false=>.fail "store size"
   |_,none=>.fail "store"
  |_=>.fail "store"
 |.ready _|.waits _=>.fail "ready"
 |.nilCheck x=>match g x with
  |.ptr b o=>.val (.ptr b o) h
  |.slice b o n c=>.val (.slice b o n c) h
  |.fn f a b=>.val (.fn f a b) h
  |.iface t v=>.val (.iface t v) h
  |_=>.fail "nilCheck"
 |.binOp op t x y _=>fC h ("binOp " ++kindName (g x)++ " " ++kindName (g y)) (c7 P h op t x y (g x) (g y))
 |.unOp op _ x=>match op,g x with
  |.not,.bool b=>.val (.bool (!b)) h
  |.neg,.int k n=>.val (.int k (k.wrap (0-n))) h
  |.xor,.int k n=>fC h "unOp" (arith .xor k (if k.signed then-1 else k.max) n)
  |_,_=>.fail "unOp"
 |.convert src dst x=>eR P src dst (g x) h
 |.sliceToArrayPointer .. =>.fail "sliceToArrayPointer"
 |.makeInterface t x=>match P.underlying t with
  |some (.interface _)=>.fail "makeInterface"
  |some _=>.val (.iface t (g x)) h
  |none=>.fail "makeInterface"
 |.makeFunc fn first aM=>match fn with
  |.func f=>.val (.fn f (first.toList.map g) (aM.toList.map g)) h
  |_=>.fail "makeFunc"
 |.makeMap t r=>match r with
  |none=>.val (.map h.n) (h.push (.map [] 0))
  |some x=>match P.underlying t,g x with
   |some (.map _ _),.int _ _=>.val (.map h.n) (h.push (.map [] 0))
   |_,_=>.fail "makeMap"
 |.makeChan .. =>.fail "makeChan"
 |.makeSlice t l c=>match P.underlying t,fB (g l),fB (g c) with
  |some (.slice e),some l,some c=>match P.info? e,ew P e with
   |some i,some z=>if l<=c&&Nat.ble (c*(i.bytes+1)) 1099511627776&&Nat.beq z.cells.length i.size then(match newRow h e (if c*i.size=0 then[] else eT c z.cells) with
    |some (b,al)=>.val (.slice b 0 l (.exact c)) al
    |none=>.fail "makeSlice") else .fail "makeSlice bounds"
   |_,_=>.fail "makeSlice"
  |_,_,_=>.fail "makeSlice"
 |.slice t x bf ae mx=>fC h ("slice " ++kindName (g x)++((bf.map λo=>kindName (g o)).getD "-")++((ae.map λo=>kindName (g o)).getD "-")) (fM P h t (g x) (bf.map g) (ae.map g) (mx.map g))
 |.fieldAddr s x f=>match P.underlying s,g x with
  |some (.struct cu),.ptr b off=>match cu[f]? with
   |some fd=>match dt P fd.type with
    |some 0=>.fail "fieldAddr 0"
    |some _=>.val (.ptr b (off+fd.offset)) h
    |none=>.fail "fieldAddr"
   |none=>.fail "fieldAddr"
  |_,v=>.fail ("fieldAddr " ++kindName v)
 |.field t x f=>match P.underlying t,g x with
  |some (.struct cu),.agg cs=>match cu[f]? with
   |some fd=>fC h "field" (kO P fd.type cs fd.offset)
   |none=>.fail "field"
  |_,_=>.fail "field"
 |.indexAddr t x i=>match P.underlying t,g x,fB (g i) with
  |some (.array n e),.ptr b off,some i=>match dt P e with
   |some sz=>if i<n then .val (.ptr b (off+i*sz)) h else .fail "indexAddr range"
   |none=>.fail "indexAddr"
  |some (.slice e),.slice b off n c,some i=>match dt P e with
   |some sz=>if i<n then .val (.ptr b (off+i*sz)) h else .fail "indexAddr range"
   |none=>.fail "indexAddr"
  |_,v,w=>.fail ("indexAddr " ++kindName v++kindName (g i))
 |.index t x i=>match P.underlying t,g x,fB (g i) with
  |some (.array n e),.agg cs,some i=>match dt P e with
   |some sz=>if i<n then fC h "index" (kO P e cs (i*sz)) else .fail "index range"
   |none=>.fail "index"
  |some .string,.str s,some i=>match nth i s with
   |some b=>.val (.int .u8 (Int.ofNat b.toNat)) h
   |none=>.fail "index str range"
  |_,_,_=>.fail "index"
 |.lookup t x i ok=>fC h "lookup" (yC P h t (g x) (g i) ok)
 |.mapUpdate t m k v=>po "mapUpdate" (tM P h t (g m) (g k) (g v))
 |.mapEntry t m k=>kP "mapEntry" (yD P h t (g m) (g k))
 |.entryStore t m s v=>po "entryStore" (yE h (g m) (g s) (g v))
 |.range t x=>match P.underlying t,g x with
  |some .string,.str s=>.val (.ptr h.n 0) (h.push (.oi s 0))
  |some (.map _ _),.g_=>.val (.ptr h.n 0) (h.push (.mapIter none 0 [] 0))
  |some (.map _ _),.map m=>match h.get m with
   |some (.map _ c)=>.val (.ptr h.n 0) (h.push (.mapIter (some m) c [] c))
   |_=>.fail "range"
  |_,_=>.fail "range"
 |.next it isStr=>kP "next" (yG h (g it) isStr)
 |.entry it=>fC h "entry" (yI h (g it))
 |.typeAssert x xT as ok=>match P.underlying as,g x with
  |some (.interface _),_=>.fail "typeAssert to an interface"
  |some _,.eO=>if ok then(match ew P as with|some z=>.val (.aW [z,.bool false]) h|none=>.fail "typeAssert") else .fail "typeAssert nil"
  |some _,.iface t v=>if t=as then .val (if ok then .aW [v,.bool true] else v) h else
   if ok then(match ew P as with|some z=>.val (.aW [z,.bool false]) h|none=>.fail "typeAssert") else .fail "typeAssert fails"
  |_,_=>.fail "typeAssert"
 |.extract t i=>match g t with
  |.aW vs=>fC h "extract" (nth i vs)
  |_=>.fail "extract"
 |.call c=>match c.callee with
  |.value f=>rS (g f) (c.args.toList.map g) h
  |.invoke r name=>match g r with
   |.iface t v=>match yJ P t name with
    |some f=>.call f (v::c.args.toList.map g) h
    |none=>.fail ("invoke " ++name)
   |_=>.fail ("invoke " ++name)
  |.builtin b=>hZ P b c.argTypes (c.args.toList.map g) h
 |.go _=>.fail "go"
 |.defer c=>match c.callee with
  |.value f=>match g f with
   |.fn k first aM=>.jG (.call k (first++c.args.toList.map g++aM))
   |_=>.fail "defer"
  |_=>.fail "defer"
 |.panic x=>match g x with
  |.iface t v=>.b9 (.iface t v) h
  |_=>.fail "panic"
 |.send .. |.recv .. |.select .. =>.fail "comm"
structure Step where
 guard:Option (Acc×Bool)
 o:Oper
 loc:List (Nat×Acc)
 m:Nat
structure FX where
 steps:List Step
 loc:List (Nat×Acc)
def jI(P:Program)(need:Nat)(ops:Array Oper)(loc:List (Nat×Acc))(o:Oper):Option (Acc×Bool):=
 match o.guard with
 |none=>none
 |some (j,b)=>match(ops[j]?).bind (·.dst) with
  |some t=>some (cT P need loc (.tmp t),b)
  |none=>some (.val .bad,b)
def aliasOf(o:Oper):Option (Nat×Operand):=
 match o.guard,o.dst,o.op with
 |none,some t,.move x=>some (t,x)
 |none,some t,.assign x=>some (t,x)
 |_,_,_=>none
def lo(o:Oper)(m:Nat)(loc:List (Nat×Acc)):List (Nat×Acc):=
 match o.dst with
 |some t=>(t,.env m)::loc
 |none=>loc
def tN(P:Program)(need:Nat)(ops:Array Oper):List Oper->List (Nat×Acc)->List Step->Nat->FX
 |[],loc,st,_=>⟨st.reverse,loc⟩
 |o::rest,loc,st,m=>
  match aliasOf o with
  |some (t,x)=>tN P need ops rest ((t,cT P need loc x)::loc) st m
  |none=>tN P need ops rest (lo o m loc) (⟨jI P need ops loc o,o,loc,m⟩::st) (m+1)
def ou(P:Program)(need:Nat)(ops:Array Oper):FX:=tN P need ops ops.toList [] [] 0
inductive l5 where
 |ok (env:List I) (d:List b1) (q:bJ) (h:J)
 |b9 (v:I) (d:List b1) (q:bJ) (h:J)
 |fail (iy:String)
inductive vJ where
 |ok (v:I) (d:List b1) (q:bJ) (h:J)
 |b9 (v:I) (d:List b1) (q:bJ) (h:J)
 |fail (iy:String)
def ey:Option (I×Bool)->Option Bool
 |none=>some true
 |some (.bool c,b)=>some (c==b)
 |some (.aW [],_)=>some false
 |_=>none
def vK(d:List b1)(q:bJ):an->vJ
 |.ret v h=>.ok v d q h
 |.b9 v h=>.b9 v d q h
 |.fail w=>.fail w
def dV(P:Program)(inR:Bool)(call:ay->List I->J->an)(gd:Option (I×Bool))(o:Oper)(g:Operand->I)(d:List b1)(q:bJ)(h:J):vJ:=
 match ey gd with
 |none=>.fail ("guard " ++o.pos)
 |some false=>.ok (.aW []) d q h
 |some true=>
  match cM P o g h with
  |.val v al=>.ok v d q al
  |.b9 v al=>.b9 v d q al
  |.call f args al=>vK d q (call (.fn f) args al)
  |.cc l args al=>vK d q (call (.cc l) args al)
  |.jG x=>if inR then .fail "defer in a round" else .ok (.aW []) (x::d) q h
  |.rQ=>if inR then .fail "recover in a round" else match q with
   |.none=>.ok .eO d .none h
   |.done v=>.ok .eO d (.done v) h
   |.act v=>.ok v d (.done v) h
  |.fail w=>.fail (w++ " at " ++o.pos)
def jJ(P:Program)(need:Nat)(inR:Bool)(call:ay->List I->J->an)(r:aT):List Step->List I->List b1->bJ->J->l5
 |[],env,d,q,h=>.ok env d q h
 |s::rest,env,d,q,h=>
  match dV P inR call (match s.guard with|none=>none|some (a,b)=>some (dU s.m env r a,b)) s.o (λx=>dU s.m env r (cT P need s.loc x)) d q h with
  |.ok v bG bP al=>jJ P need inR call r rest (v::env) bG bP al
  |.b9 v bG bP al=>.b9 v bG bP al
  |.fail w=>.fail w
def b5.beq:b5->b5->Bool
 |.exact a,.exact b=>Nat.beq a b
 |.aY a,.aY b=>Nat.beq a b
 |.dead,.dead=>true
 |_,_=>false
mutual
def I.beq:I->I->Bool
 |.bool a,.bool b=>a==b
 |.int j a,.int k b=>decide (j=k)&&a7 a b
 |.str a,.str b=>cg a b
 |.aR,.aR=>true
 |.ptr a i,.ptr b j=>Nat.beq a b&&Nat.beq i j
 |.a_,.a_=>true
 |.slice a i n c,.slice b j m d=>Nat.beq a b&&Nat.beq i j&&Nat.beq n m&&c.beq d
 |.g_,.g_=>true
 |.map a,.map b=>Nat.beq a b
 |.fi,.fi=>true
 |.fn f a b,.fn g c d=>Nat.beq f g&&I.jK a c&&I.jK b d
 |.cc a,.cc b=>Nat.beq a b
 |.eO,.eO=>true
 |.iface t v,.iface u w=>Nat.beq t u&&I.beq v w
 |.agg a,.agg b=>I.jK a b
 |.aW a,.aW b=>I.jK a b
 |_,_=>false
def I.jK:List I->List I->Bool
 |[],[]=>true
 |a::as,b::bs=>I.beq a b&&I.jK as bs
 |_,_=>false
end
inductive Ms where
 |pure|alloc|eg
def kindOf(P:Program):Op->Ms
 |.move _|.assign _|.pick .. |.build .. |.load .. |.nilCheck _|.binOp .. |.unOp .. |.makeInterface .. |.makeFunc .. |.slice .. |.fieldAddr .. |.field .. |.indexAddr .. |.index .. |.lookup .. |.typeAssert .. |.extract .. =>.pure
 |.convert _ d _=>match P.underlying d with
  |some (.slice _)=>.eg
  |_=>.pure
 |.call c=>match c.callee with
  |.builtin .len|.builtin .cap|.builtin .min|.builtin .max|.builtin .unsafeSliceData=>.pure
  |_=>.eg
 |.alloc _|.box .. |.buildSlice .. |.makeSlice .. =>.alloc
 |.makeMap _ none=>.alloc
 |_=>.eg
def jL(P:Program)(o:Op)(g:Operand->I)(b:Nat):Option (I×cx):=
 match o with
 |.alloc e=>match ew P e with
  |some z=>match z.cells.all I.bY with
   |true=>some (.ptr b 0,.cells z.cells e .own 0 0)
   |false=>none
  |none=>none
 |.box e x=>match(g x).cells.all I.bY with
  |true=>some (.ptr b 0,.cells (g x).cells e .own 0 0)
  |false=>none
 |.buildSlice t len parts=>match P.underlying t with
  |some (.slice e)=>match dt P e,ew P e with
   |some sz,some z=>match Nat.ble (len*sz) 16777216&&Nat.beq z.cells.length sz,jg (λi=>some (i*sz,sz)) (if len*sz=0 then[] else eT len z.cells) (parts.toList.map λp=>(p.1,g p.2)) with
    |true,some cs=>match cs.all I.bY with
     |true=>some (.slice b 0 len (.exact len),.cells cs e .own 0 0)
     |false=>none
    |_,_=>none
   |_,_=>none
  |_=>none
 |.makeSlice t l c=>match P.underlying t,fB (g l),fB (g c) with
  |some (.slice e),some l,some c=>match P.info? e,ew P e with
   |some i,some z=>match decide (l<=c)&&Nat.ble (c*(i.bytes+1)) 1099511627776&&Nat.beq z.cells.length i.size,(if c*i.size=0 then[] else eT c z.cells) with
    |true,cs=>match cs.all I.bY with
     |true=>some (.slice b 0 l (.exact c),.cells cs e .own 0 0)
     |false=>none
    |_,_=>none
   |_,_=>none
  |_,_,_=>none
 |.makeMap _ none=>some (.map b,.map [] 0)
 |_=>none
structure DStep where
 i:Nat
 o:Oper
 eU:Nat
 loc:List (Nat×Acc)
def vL(gp:List Nat)(n:Nat)(o:Oper):Nat:=
 o.after.foldl (λs e=>match Region.binds .any e with
  |true=>s|||1<<<e.on|||(nth (n-1-e.on) gp).getD 0
  |false=>s) 0
def e1:List Oper->Nat->List (Nat×Acc)->List Nat->List DStep
 |[],_,_,_=>[]
 |o::l,n,loc,gp=>
  let m:=vL gp n o
  ⟨n,o,m,loc⟩::e1 l (n+1) (lo o n loc) (m::gp)
def ib:List Oper->Nat->List (Nat×Acc)->List (Nat×Acc)
 |[],_,loc=>loc
 |o::l,n,loc=>ib l (n+1) (lo o n loc)
def gG(P:Program)(need:Nat)(ops:Array Oper)(r:aT)(n:Nat)(env:List I)(s:DStep):Option (I×Bool):=
 match jI P need ops s.loc s.o with
 |none=>none
 |some (a,b)=>some (dU n env r a,b)
inductive Bz where
 |ok (env:List I) (d:List b1) (q:bJ) (h:J) (a9:List (Nat×Nat×J))
 |b9 (v:I) (env:List I) (d:List b1) (q:bJ) (h:J) (a9:List (Nat×Nat×J))
 |fail (iy:String)
def ga(P:Program)(need:Nat)(inR:Bool)(call:ay->List I->J->an)(ops:Array Oper)(r:aT)(cP:Nat):List DStep->List I->List b1->bJ->J->List (Nat×Nat×J)->Bz
 |[],env,d,q,h,a9=>.ok env d q h a9
 |s::rest,env,d,q,h,a9=>
  let gd:=gG P need ops r s.i env s
  let g:=λx=>dU s.i env r (cT P need s.loc x)
  match kindOf P s.o.op with
  |.alloc=>match ey gd with
   |none=>.fail ("guard " ++s.o.pos)
   |some false=>ga P need inR call ops r cP rest (.aW []::env) d q h a9
   |some true=>match jL P s.o.op g (cP+s.i) with
    |some (v,o)=>ga P need inR call ops r cP rest (v::env) d q (h.set (cP+s.i) (some o)) a9
    |none=>.fail ("alloc " ++s.o.pos)
  |.pure=>match dV P inR call gd s.o g d q h with
   |.ok v _ _ _=>ga P need inR call ops r cP rest (v::env) d q h a9
   |.b9 _ _ _ _=>.fail ("pure " ++s.o.pos)
   |.fail w=>.fail w
  |.eg=>
   match(match a9 with|[]=>true|(e,_,_)::_=>Nat.testBit s.eU e) with
   |false=>.fail ("order " ++s.o.pos)
   |true=>match dV P inR call gd s.o g d q h with
    |.ok v bG bP al=>ga P need inR call ops r cP rest (v::env) bG bP al ((s.i,s.eU,h)::a9)
    |.b9 v bG bP al=>match rest.all (λbM=>Nat.testBit bM.eU s.i) with
     |true=>.b9 v env bG bP al ((s.i,s.eU,h)::a9)
     |false=>.fail ("panic " ++s.o.pos)
    |.fail w=>.fail w
def lp(P:Program)(need:Nat)(ops:Array Oper)(r:aT)(n:Nat)(env:List I)(s:DStep)(v:I)(h:J):Bool:=
 match ey (gG P need ops r n env s) with
 |none=>false
 |some false=>true
 |some true=>match cM P s.o (λx=>dU n env r (cT P need s.loc x)) h with
  |.val v' _=>I.beq v' v
  |_=>false
def kx(P:Program)(need:Nat)(ops:Array Oper)(r:aT)(n:Nat)(env:List I)(s:DStep)(v:I):Option Nat->J->List (Nat×Nat×J)->Bool
 |dX,h,a9=>
  (match(match dX with|none=>false|some e=>Nat.testBit s.eU e)||(match a9 with|[]=>false|(_,m,_)::_=>Nat.testBit m s.i) with
   |true=>true
   |false=>lp P need ops r n env s v h)&&
  (match a9 with
   |[]=>true
   |(e,_,al)::rest=>kx P need ops r n env s v (some e) al rest)
def kQ(P:Program)(need:Nat)(ops:Array Oper)(r:aT)(n:Nat)(env:List I)(last:Option Nat)(h:J)(a9:List (Nat×Nat×J)):List DStep->Bool
 |[]=>true
 |s::rest=>(match Nat.blt s.i n,kindOf P s.o.op with
   |true,.pure=>kx P need ops r n env s ((nth (n-1-s.i) env).getD .bad) last h a9
   |_,_=>true)&&kQ P need ops r n env last h a9 rest
def rT(P:Program)(need:Nat)(inR:Bool)(call:ay->List I->J->an)(ops:Array Oper)(r:aT)(d:List b1)(q:bJ)(h:J):l5:=
 let steps:=e1 ops.toList 0 [] []
 match ga P need inR call ops r h.n steps [] d q ⟨h.t,h.n+ops.size⟩ [] with
 |.ok env bG bP al a9=>match kQ P need ops r env.length env none al a9 steps with
  |true=>.ok env bG bP al
  |false=>.fail "orders"
 |.b9 v env bG bP al a9=>match a9 with
  |(e,_,h0)::rest=>match kQ P need ops r env.length env (some e) h0 rest steps with
   |true=>.b9 v bG bP al
   |false=>.fail "orders"
  |[]=>.fail "orders"
 |.fail w=>.fail w
def pq(need:Nat)(m:Nat)(env:List I)(hn:aT):List (Nat×Acc)->aT->aT
 |[],r=>r
 |(t,a)::l,r=>
  let r':=pq need m env hn l r
  match Nat.testBit need t with
  |true=>r'.set (gO t) (dU m env hn a)
  |false=>r'
def tO:List (Nat×Acc)->aT->aT
 |[],r=>r
 |(t,_)::l,r=>(tO l r).set (gO t) .bad
def pr(need:Nat)(r:aT)(loc:List (Nat×Acc)):l5->iL
 |.ok env d q h=>.ok .nrm (pq need env.length env r loc r) d q h
 |.b9 v d q h=>.ok (.b9 v) (tO loc r) d q h
 |.fail w=>.fail w
def pt(x:iL)(f:aT->List b1->bJ->J->iL):iL:=
 match x with
 |.ok .nrm r d q h=>f r d q h
 |x=>x
def ov(f:aT->List b1->bJ->J->iL):Nat->aT->List b1->bJ->J->iL
 |0,_,_,_,_=>.fail "loop fuel"
 |n+1,r,d,q,h=>pt (f r d q h) (ov f n)
def nx(rd:Option Nat)(n:Nat):Nat:=match rd with
 |none=>n+1
 |some _=>n
def vM(need:Nat)(rd:Option Nat)(r:aT)(ps:List Nat)(as cn:Code)(d:List b1)(h:J):Option (List b1×J):=
 match rd with
 |none=>some (.collected h.n::d,(h.push (.defrd (some []))).push (.loop .ready none need r ps as cn h.n))
 |some qp=>match h.get qp with
  |some (.loop _ _ _ _ _ _ _ ee)=>some (d,h.push (.loop .ready none need r ps as cn ee))
  |_=>none
def kR(l:Nat)(r:aT)(d:List b1)(q:bJ):an->iL
 |.ret _ h=>match h.get l with
  |some (.loop st fL gP rg ps as cn ee)=>match st with
   |.busy=>.fail "rangeFunc: busy"
   |_=>match fL with
    |none=>.ok .nrm r d q (h.set l (some (.loop .exhausted fL gP rg ps as cn ee)))
    |some .ret=>.ok .ret r d q (h.set l (some (.loop .exhausted fL gP rg ps as cn ee)))
    |some (.exit id)=>.ok (.exit id) r d q (h.set l (some (.loop .exhausted fL gP rg ps as cn ee)))
    |_=>.fail "rangeFunc: goto"
  |_=>.fail "rangeFunc: loop gone"
 |.b9 v h=>.ok (.b9 v) r d q h
 |.fail w=>.fail w
def dG(P:Program)(need:Nat)(rd:Option Nat)(call:ay->List I->J->an):Code->aT->List b1->bJ->J->iL
 |.skip,r,d,q,h=>.ok .nrm r d q h
 |.region id ops draw,r,d,q,h=>
  match draw with
  |false=>
   let pl:=ou P need ops
   pr need r pl.loc (jJ P need rd.isSome call r pl.steps [] d q h)
  |true=>pr need r (ib ops.toList 0 []) (rT P need rd.isSome call ops r d q h)
 |.seq a b,r,d,q,h=>pt (dG P need rd call a r d q h) (dG P need rd call b)
 |.cond c a b,r,d,q,h=>match dU 0 [] r (cT P need [] c) with
  |.bool true=>dG P need rd call a r d q h
  |.bool false=>dG P need rd call b r d q h
  |_=>.fail "cond"
 |.block id b,r,d,q,h=>match dG P need rd call b r d q h with
  |.ok (.exit i) r' bG bP al=>if i=id then .ok .nrm r' bG bP al else .ok (.exit i) r' bG bP al
  |x=>x
 |.loop b,r,d,q,h=>ov (dG P need rd call b) 100000 r d q h
 |.exit id,r,d,q,h=>.ok (.exit id) r d q h
 |.ret,r,d,q,h=>.ok .ret r d q h
 |.label _,r,d,q,h=>.ok .nrm r d q h
 |.goto l,r,d,q,h=>.fail "goto"
 |.scope b,r,d,q,h=>dG P need rd call b r d q h
 |.rangeFunc f params assign body,r,d,q,h=>
  match vM need rd r params.toList assign body d h with
  |none=>.fail "rangeFunc"
  |some (bG,aa)=>
   match rS (dU 0 [] r (cT P need [] f)) [.cc (nx rd h.n)] aa with
   |.call g args ad=>kR (nx rd h.n) r bG q (call (.fn g) args ad)
   |.cc bB args ad=>kR (nx rd h.n) r bG q (call (.cc bB) args ad)
   |_=>.fail "rangeFunc: no function"
 |.refuse w,_,_,_,_=>.fail ("refuse " ++w)
def bit(t:Nat):Nat:=1<<<t
def FY:List Oper->Nat->Nat->Nat
 |[],_,acc=>acc
 |o::l,written,acc=>
  let acc:=o.op.operands.foldl (λa x=>match x with
   |.tmp t=>if Nat.testBit written t then a else a|||bit t
   |_=>a) acc
  FY l (match o.dst with|some t=>written|||bit t|none=>written) acc
def FZ:Operand->Nat
 |.tmp t=>bit t
 |_=>0
def qq:Code->Nat->Nat
 |.region _ ops _,acc=>FY ops.toList 0 acc
 |.seq a b,acc=>qq b (qq a acc)
 |.cond c a b,acc=>qq b (qq a (acc|||FZ c))
 |.block _ b,acc|.loop b,acc|.scope b,acc=>qq b acc
 |.rangeFunc f ps a b,acc=>qq b (qq a (acc|||FZ f|||ps.foldl (λa t=>a|||bit t) 0))
 |_,acc=>acc
def d_(fn:Func):Nat:=
 let rs:=fn.results.foldl (λa r=>match r with|.tmp t=>a|||bit t|.cell t _=>a|||bit t) 0
 match fn.body with
 |some c=>qq c rs
 |none=>rs
def ny:Nat->List I->aT->aT
 |_,[],r=>r
 |i,v::l,r=>ny (i+1) l (r.set (gO i) v)
def qs(P:Program)(need:Nat)(r:aT)(h:J)(x:ResultVar):Option I:=
 match x with
 |.tmp t=>match Nat.testBit need t with
  |true=>some (r.get (gO t))
  |false=>none
 |.cell t ty=>match Nat.testBit need t with
  |true=>match r.get (gO t),l4 P ty,dt P ty with
   |.ptr b off,some true,some n=>(match loadCells h b off n with|some cs=>some (.agg cs)|none=>none)
   |.ptr b off,some false,_=>aq h b off
   |_,_,_=>none
  |false=>none
def mR(f:ResultVar->Option I):List ResultVar->Option (List I)
 |[]=>some []
 |x::l=>match f x,mR f l with
  |some v,some vs=>some (v::vs)
  |_,_=>none
def pv(P:Program)(need:Nat)(fn:Func)(r:aT)(h:J):Option I:=
 match mR (qs P need r h) fn.results.toList with
 |some [v]=>some v
 |some vs=>some (.aW vs)
 |none=>none
def nz(c:Nat):List UInt8->Nat->Int
 |[],_=>-1
 |b::l,i=>match Nat.beq b.toNat c with
  |true=>Int.ofNat i
  |false=>nz c l (i+1)
def tP(P:Program)(fn:Func)(name:String)(args:List I)(h:J):Option (I×J):=
 match args with
 |[.int .i64 (.ofNat n)]=>if name= "internal/bytealg.MakeNoZero" then
    (match fn.resultTypes[0]? with
    |some t=>match P.underlying t with
     |some (.slice e)=>match Nat.ble n 1099511627776 with
      |true=>some (.slice h.n 0 n (.aY 1),h.push (.cells (List.replicate n .bad) e .aY 0 0))
      |false=>none
     |_=>none
    |none=>none) else none
 |[x]=>if name= "internal/abi.NoEscape" then some (x,h) else
  if name= "maps.clone" then(match x with
   |.iface t (.map r)=>match h.get r with
    |some (.map es c)=>some (.iface t (.map h.n),h.push (.map es c))
    |_=>none
   |_=>none) else none
 |[.str s,.int .u8 (.ofNat c)]=>if name= "internal/bytealg.IndexByteString" then
    (match Nat.blt c 256 with
    |true=>some (.int .i64 (nz c s 0),h)
    |false=>none) else none
 |_=>none
def tQ:Option I->bJ
 |some v=>.act v
 |none=>.none
def vN(q:bJ)(ez:Option I):Option I:=match q with
 |.done _=>none
 |_=>ez
def l6(P:Program)(call:ay->List I->J->an)(fn:Func)(args:List I)(q:bJ)(h:J):iL:=
 match fn.body with
 |some c=>match Nat.ble args.length fn.ntmps with
  |true=>dG P (d_ fn) none call c (ny 0 args .leaf) [] q h
  |false=>.fail "too many arguments"
 |none=>.fail "no body"
def F0(P:Program)(fn:Func)(ez:Option I):iL->Option (Option I×J)
 |.ok e r d q h=>match(match e with|.nrm=>true|.ret=>true|_=>false),d,pv P (d_ fn) fn r h with
  |true,[],some _=>some (vN q ez,h)
  |_,_,_=>none
 |.fail _=>none
def jM(P:Program)(call:ay->List I->J->an)(need:Nat)(fn:Func)(r:aT):Nat->Option I->List b1->J->an
 |0,_,_,_=>.fail "defers"
 |k+1,ez,bm,h=>match bm with
  |[]=>match ez with
   |none=>match pv P need fn r h with
    |some v=>.ret v h
    |none=>.fail "results"
   |some v=>.b9 v h
  |.collected b::bm=>match h.get b with
   |some (.defrd (some cs))=>jM P call need fn r k ez (cs++bm) (h.set b (some (.defrd none)))
   |_=>.fail "collected"
  |.call g args::bm=>
   match P.funcs[g]? with
   |some gH=>match F0 P gH ez (l6 P call gH args (tQ ez) h) with
    |some (Mt,al)=>jM P call need fn r k Mt bm al
    |none=>.fail "deferred call"
   |none=>.fail "deferred"
def l7(P:Program)(call:ay->List I->J->an)(fn:Func):iL->an
 |.ok .nrm r d _ h=>jM P call (d_ fn) fn r 100 none d h
 |.ok .ret r d _ h=>jM P call (d_ fn) fn r 100 none d h
 |.ok (.b9 v) r d _ h=>jM P call (d_ fn) fn r 100 (some v) d h
 |.ok _ _ _ _ _=>.fail "exit out of a function"
 |.fail w=>.fail (w++ " < " ++fn.name)
def qt(P:Program)(call:ay->List I->J->an)(f:Nat)(args:List I)(h:J):an:=
 match P.funcs[f]? with
 |none=>.fail "no function"
 |some fn=>
  match fn.body with
  |none=>match tP P fn fn.name args h with
   |some (v,al)=>.ret v al
   |none=>.fail ("extern " ++fn.name)
  |some _=>l7 P call fn (l6 P call fn args .none h)
def rU:List Nat->List I->aT->Option aT
 |[],[],r=>some r
 |t::ts,v::vs,r=>rU ts vs (r.set (gO t) v)
 |_,_,_=>none
def tR(l:Nat):iL->an
 |.ok e _ [] _ h=>match h.get l with
  |some (.loop .busy _ gP rg ps as cn ee)=>match e with
   |.nrm=>.ret (.bool true) (h.set l (some (.loop .ready none gP rg ps as cn ee)))
   |.ret=>.ret (.bool false) (h.set l (some (.loop .done (some .ret) gP rg ps as cn ee)))
   |.exit id=>.ret (.bool false) (h.set l (some (.loop .done (some (.exit id)) gP rg ps as cn ee)))
   |.b9 v=>.b9 v h
   |.goto _=>.fail "goto in a round"
  |_=>.fail "round"
 |.ok .. =>.fail "round defers"
 |.fail w=>.fail (w++ " < round")
def yK(P:Program)(call:ay->List I->J->an)(l need:Nat)(cn:Code):iL->an
 |.ok .nrm r [] _ h=>match h.get l with
  |some (.loop .ready fL gP rg ps yL yM ee)=>tR l (dG P need (some l) call cn r [] .none (h.set l (some (.loop .busy fL gP rg ps yL yM ee))))
  |_=>.fail "round"
 |.ok .. =>.fail "round assign"
 |.fail w=>.fail w
def ow(P:Program)(call:ay->List I->J->an)(l:Nat)(args:List I)(h:J):an:=
 match h.get l with
 |some (.loop .ready _ need rg ps as cn _)=>
  match rU ps args rg with
  |none=>.fail "yield: arguments"
  |some hn=>yK P call l need cn (dG P need (some l) call as hn [] .none h)
 |_=>.fail "yield"
def fD(P:Program)(intr:Nat->List I->J->Option (I×J)):Nat->ay->List I->J->an
 |0,_,_,_=>.fail "depth"
 |n+1,.fn f,args,h=>match intr f args h with
  |some (v,al)=>.ret v al
  |none=>qt P (fD P intr n) f args h
 |n+1,.cc l,args,h=>ow P (fD P intr n) l args h
def iM(n:Nat):J:=⟨.leaf,n⟩
def lq(ops:Array Oper)(o:Oper):List Nat:=
 o.dst.toList++(o.op.operands.toList.filterMap λ|.tmp t=>some t|_=>none)++(match o.guard with|some (j,_)=>((ops[j]?).bind (·.dst)).toList|none=>[])
def nA(o:Oper)(i:Nat):Bool:=o.after.toList.all λe=>!Region.binds .any e||Nat.blt e.on i
def yN(ops:Array Oper)(s:DStep):List DStep->Bool
 |[]=>true
 |bM::l=>(match(match s.o.dst with|some t=>(lq ops bM.o).contains t|none=>false)||(match bM.o.dst with|some t=>(lq ops s.o).contains t|none=>false) with
   |true=>Nat.testBit bM.eU s.i
   |false=>true)&&yN ops s l
def pw(ops:Array Oper):List DStep->Bool
 |[]=>true
 |s::l=>nA s.o s.i&&yN ops s l&&pw ops l
def ic(cm:Nat):Code->Bool
 |.region _ ops draw=>ops.toList.all (λo=>match o.dst with|some t=>Nat.blt t cm|none=>true)&&(!draw||pw ops (e1 ops.toList 0 [] []))
 |.seq a b=>ic cm a&&ic cm b
 |.cond _ a b=>ic cm a&&ic cm b
 |.block _ b|.loop b|.scope b=>ic cm b
 |.rangeFunc _ ps a b=>ps.toList.all (λt=>Nat.blt t cm)&&ic cm a&&ic cm b
 |_=>true
end aD
namespace aD
open Go
def hJ.num:hJ->Nat
 |.here=>0
 |.l p=>2*p.num+1
 |.r p=>2*p.num+2
theorem F1:∀(f n:Nat),n<=f->(vA f n).num=n
 |0,n,h=>by
  obtain rfl:n=0:=by omega
  rfl
 |f+1,0,_=>rfl
 |f+1,m+1,h=>by
  have e:Nat.mod m 2=m %2:=rfl
  have aC:Nat.div m 2=m/2:=rfl
  have ba:=F1 f (m/2) (by omega)
  simp only[vA,e,aC]
  rcases Nat.mod_two_eq_zero_or_one m with h0|aa
  · simp only[h0,hJ.num,ba];omega
  · simp only[aa,hJ.num,ba];omega
theorem yO(n:Nat):(gO n).num=n:=F1 n n (Nat.le_refl n)
theorem Mu{m n:Nat}(h:gO m=gO n):m=n:=by rw[<-yO m,<-yO n,h]
theorem aT.qu(l:aT)(v:I)(r:aT):aT.Bu l v r=.node l v r:=by cases l<;>rfl
theorem aT.qv(l:aT)(v:I)(r:aT):aT.Bv l v r=.node l v r:=by cases r<;>rfl
theorem aT.mS(p:hJ):aT.get p .leaf=.bad:=by cases p<;>rfl
theorem aT.vO:∀(p:hJ) (v:I) (t:aT),(aT.set p v t).get p=v
 |.here,v,.leaf=>rfl
 |.here,v,.node .. =>rfl
 |.l p,v,.leaf=>by simp only[aT.set,aT.qu,aT.get];exact vO p v _
 |.l p,v,.node l _ _=>by simp only[aT.set,aT.qu,aT.get];exact vO p v _
 |.r p,v,.leaf=>by simp only[aT.set,aT.qv,aT.get];exact vO p v _
 |.r p,v,.node .. =>by simp only[aT.set,aT.qv,aT.get];exact vO p v _
theorem aT.vP:∀(p q:hJ) (v:I) (t:aT),p≠q->(aT.set q v t).get p=t.get p
 |.here,.here,_,_,h=>absurd rfl h
 |.here,.l q,v,.leaf,_=>by simp[aT.set,aT.qu,aT.get]
 |.here,.l q,v,.node ..,_=>by simp[aT.set,aT.qu,aT.get]
 |.here,.r q,v,.leaf,_=>by simp[aT.set,aT.qv,aT.get]
 |.here,.r q,v,.node ..,_=>by simp[aT.set,aT.qv,aT.get]
 |.l p,.here,v,.leaf,_=>by simp[aT.set,aT.get,aT.mS]
 |.l p,.here,v,.node ..,_=>by simp[aT.set,aT.get]
 |.r p,.here,v,.leaf,_=>by simp[aT.set,aT.get,aT.mS]
 |.r p,.here,v,.node ..,_=>by simp[aT.set,aT.get]
 |.l p,.l q,v,.leaf,h=>by
  simp only[aT.set,aT.qu,aT.get]
  rw[vP p q v _ (λe=>h (by rw[e])),aT.mS]
 |.l p,.l q,v,.node ..,h=>by
  simp only[aT.set,aT.qu,aT.get]
  exact vP p q v _ (λe=>h (by rw[e]))
 |.r p,.r q,v,.leaf,h=>by
  simp only[aT.set,aT.qv,aT.get]
  rw[vP p q v _ (λe=>h (by rw[e])),aT.mS]
 |.r p,.r q,v,.node ..,h=>by
  simp only[aT.set,aT.qv,aT.get]
  exact vP p q v _ (λe=>h (by rw[e]))
 |.l p,.r q,v,.leaf,_=>by simp[aT.set,aT.qv,aT.get,aT.mS]
 |.l p,.r q,v,.node ..,_=>by simp[aT.set,aT.qv,aT.get]
 |.r p,.l q,v,.leaf,_=>by simp[aT.set,aT.qu,aT.get,aT.mS]
 |.r p,.l q,v,.node ..,_=>by simp[aT.set,aT.qu,aT.get]
theorem aT.b_(t u:Nat)(v:I)(r:aT):(aT.set (gO u) v r).get (gO t)=if t=u then v else r.get (gO t):=by
 by_cases h:t=u
 · subst h;simp[aT.vO]
 · rw[if_neg h];exact aT.vP _ _ _ _ (λe=>h (Mu e))
theorem eP.mS(n:Nat):eP.get .leaf n=none:=rfl
theorem eP.b_:∀(f:Nat) (t:eP) (n m:Nat) (x:Option cx),n<f->(eP.kr f t n x).get m=if m=n then x else t.get m
 |0,_,n,_,_,h=>by omega
 |f+1,.leaf,0,m,x,_=>by
  cases m with
  |zero=>simp[eP.kr,eP.get]
  |succ m=>
   simp only[eP.kr,eP.get]
   have e:Nat.mod m 2=m %2:=rfl
   rcases Nat.mod_two_eq_zero_or_one m with h|h<;>simp[e,h]
 |f+1,.node l v r,0,m,x,_=>by
  cases m with
  |zero=>simp[eP.kr,eP.get]
  |succ m=>simp[eP.kr,eP.get]
 |f+1,.leaf,n+1,m,x,aK=>by
  have e (k:Nat):Nat.mod k 2=k %2:=rfl
  have aC (k:Nat):Nat.div k 2=k/2:=rfl
  have ba:=λj=>b_ f .leaf (n/2) j x (by omega)
  rcases Nat.mod_two_eq_zero_or_one n with h|h
  · simp only[eP.kr,e,h,aC]
    cases m with
    |zero=>simp[eP.get]
    |succ m=>
     simp only[eP.get,e,aC]
     rcases Nat.mod_two_eq_zero_or_one m with g|g
     · simp only[g,ba,eP.mS]
       have:(m/2=n/2)<->(m+1=n+1):=by omega
       simp only[this]
     · simp only[g,eP.mS]
       rw[if_neg (by omega)]
  · simp only[eP.kr,e,h,aC]
    cases m with
    |zero=>simp[eP.get]
    |succ m=>
     simp only[eP.get,e,aC]
     rcases Nat.mod_two_eq_zero_or_one m with g|g
     · simp only[g,eP.mS]
       rw[if_neg (by omega)]
     · simp only[g,ba,eP.mS]
       have:(m/2=n/2)<->(m+1=n+1):=by omega
       simp only[this]
 |f+1,.node l v r,n+1,m,x,aK=>by
  have e (k:Nat):Nat.mod k 2=k %2:=rfl
  have aC (k:Nat):Nat.div k 2=k/2:=rfl
  have Mv:=λj=>b_ f l (n/2) j x (by omega)
  have yP:=λj=>b_ f r (n/2) j x (by omega)
  rcases Nat.mod_two_eq_zero_or_one n with h|h
  · simp only[eP.kr,e,h,aC]
    cases m with
    |zero=>simp[eP.get]
    |succ m=>
     simp only[eP.get,e,aC]
     rcases Nat.mod_two_eq_zero_or_one m with g|g
     · simp only[g,Mv]
       have:(m/2=n/2)<->(m+1=n+1):=by omega
       simp only[this]
     · simp only[g]
       rw[if_neg (by omega)]
  · simp only[eP.kr,e,h,aC]
    cases m with
    |zero=>simp[eP.get]
    |succ m=>
     simp only[eP.get,e,aC]
     rcases Nat.mod_two_eq_zero_or_one m with g|g
     · simp only[g]
       rw[if_neg (by omega)]
     · simp only[g,yP]
       have:(m/2=n/2)<->(m+1=n+1):=by omega
       simp only[this]
theorem J.b_(h:J)(b c:Nat)(o:Option cx):(h.set b o).get c=if c=b then o else h.get c:=
 eP.b_ _ _ _ _ _ (Nat.lt_succ_self b)
theorem J.eA(h:J)(c:Nat)(o:cx):(h.push o).get c=if c=h.n then some o else h.get c:=
 eP.b_ _ _ _ _ _ (Nat.lt_succ_self _)
@[simp] theorem J.tS (h:J) (b:Nat) (o:Option cx):(h.set b o).n=h.n:=rfl
@[simp] theorem J.mT (h:J) (o:cx):(h.push o).n=h.n+1:=rfl
structure eG where
 bj:Nat
 base:Nat
 size:Nat
abbrev bn:=Nat->Option eG
def eV(μ aP:bn):Prop:=∀b i,μ b=some i->aP b=some i
theorem eV.refl(μ:bn):eV μ μ:=λ_ _ h=>h
theorem eV.trans{μ aP F2:bn}(h:eV μ aP)(al:eV aP F2):eV μ F2:=λb i e=>al b i (h b i e)
def BA(i:eG)(off len:Nat):b5->Value->Prop
 |.exact c,v=>v=.slice (some ⟨i.bj,i.base+off,none⟩) len c
 |.aY gn,v=>∃c,v=.slice (some ⟨i.bj,i.base+off,none⟩) len c/\len<=c/\off+c*gn=i.size
 |.dead,v=>len=0/\∃a c,v=.slice (some a) 0 c
mutual
def bc(μ:bn):I->Value->Prop
 |.bad,_=>True
 |.bool b,v=>v=.bool b
 |.int k n,v=>v=.int k n
 |.str s,v=>∃t,v=.string t/\t.data.toList=s
 |.aR,v=>v=.pointer none
 |.ptr b off,v=>∃i,μ b=some i/\v=.pointer (some ⟨i.bj,i.base+off,none⟩)
 |.a_,v=>v=.slice none 0 0
 |.slice b off len cap,v=>∃i,μ b=some i/\BA i off len cap v
 |.g_,v=>v=.map none
 |.map r,v=>∃i,μ r=some i/\v=.map (some i.bj)
 |.fi,v=>v=.nilFunc
 |.fn f first aM,v=>∃cu cs,v=.func (.func f) ⟨cu⟩ ⟨cs⟩/\cd μ first cu/\cd μ aM cs
 |.cc l,v=>∃i,μ l=some i/\v=.func (.yield i.bj) ⟨[]⟩ ⟨[]⟩
 |.eO,v=>v=.nilIface
 |.iface t x,v=>∃y,v=.iface t y/\bc μ x y
 |.agg cs,v=>∃l,v=.agg ⟨l⟩/\cd μ cs l
 |.aW vs,v=>∃l,v=.tuple ⟨l⟩/\cd μ vs l
def cd(μ:bn):List I->List Value->Prop
 |[],l=>l=[]
 |a::as,l=>∃v vs,l=v::vs/\bc μ a v/\cd μ as vs
end
mutual
theorem bc.mono{μ aP:bn}(hle:eV μ aP):∀(a:I) (v:Value),bc μ a v->bc aP a v
 |.bad,_,_=>trivial
 |.bool _,_,h=>h
 |.int _ _,_,h=>h
 |.str _,_,h=>h
 |.aR,_,h=>h
 |.ptr b off,_,⟨i,h,e⟩=>⟨i,hle _ _ h,e⟩
 |.a_,_,h=>h
 |.slice b off len cap,_,⟨i,h,e⟩=>⟨i,hle _ _ h,e⟩
 |.g_,_,h=>h
 |.map r,_,⟨i,h,e⟩=>⟨i,hle _ _ h,e⟩
 |.fi,_,h=>h
 |.fn f first aM,_,⟨cu,cs,e,aa,ad⟩=>⟨cu,cs,e,cd.mono hle _ _ aa,cd.mono hle _ _ ad⟩
 |.cc l,_,⟨i,h,e⟩=>⟨i,hle _ _ h,e⟩
 |.eO,_,h=>h
 |.iface t x,_,⟨y,e,h⟩=>⟨y,e,bc.mono hle _ _ h⟩
 |.agg cs,_,⟨l,e,h⟩=>⟨l,e,cd.mono hle _ _ h⟩
 |.aW cs,_,⟨l,e,h⟩=>⟨l,e,cd.mono hle _ _ h⟩
theorem cd.mono{μ aP:bn}(hle:eV μ aP):∀(as:List I) (vs:List Value),cd μ as vs->cd aP as vs
 |[],_,h=>h
 |a::as,_,⟨v,vs,e,aa,ad⟩=>⟨v,vs,e,bc.mono hle _ _ aa,cd.mono hle _ _ ad⟩
end
mutual
theorem jN(μ:bn):∀v:Value,bc μ (nw v) v
 |.bool b=>rfl
 |.int k n=>rfl
 |.string s=>⟨s,rfl,rfl⟩
 |.pointer none=>rfl
 |.pointer (some _)=>trivial
 |.slice none 0 0=>rfl
 |.slice none 0 (_+1)=>trivial
 |.slice none (_+1) _=>trivial
 |.slice (some _) _ _=>trivial
 |.map none=>rfl
 |.map (some _)=>trivial
 |.nilFunc=>rfl
 |.nilIface=>rfl
 |.agg ⟨cs⟩=>⟨cs,rfl,BB μ cs⟩
 |.tuple ⟨cs⟩=>⟨cs,rfl,BB μ cs⟩
 |.float _ _=>trivial
 |.complex _ _ _=>trivial
 |.chan _=>trivial
 |.func _ _ _=>trivial
 |.iface _ _=>trivial
theorem BB(μ:bn):∀vs:List Value,cd μ (yw vs) vs
 |[]=>rfl
 |v::vs=>⟨v,vs,rfl,jN μ v,BB μ vs⟩
end
theorem cd.length{μ:bn}:∀{as:List I} {vs:List Value},cd μ as vs->as.length=vs.length
 |[],_,h=>by cases h;rfl
 |a::as,_,⟨v,vs,e,_,ad⟩=>by subst e;simp[cd.length ad]
theorem cd.append{μ:bn}:∀{as bs:List I} {vs us:List Value},cd μ as vs->cd μ bs us->cd μ (as++bs) (vs++us)
 |[],_,_,_,h,al=>by cases h;exact al
 |a::as,_,_,_,⟨v,vs,e,aa,ad⟩,al=>by subst e;exact⟨v,vs++_,rfl,aa,cd.append ad al⟩
theorem cd.get{μ:bn}:∀{as:List I} {vs:List Value} (_:cd μ as vs) {j:Nat} {a:I},as[j]? =some a->∃v,vs[j]? =some v/\bc μ a v
 |[],_,_,j,a,h=>by simp at h
 |x::as,_,⟨v,vs,e,aa,ad⟩,0,a,h=>by
  subst e;simp at h;subst h;exact⟨v,rfl,aa⟩
 |x::as,_,⟨v,vs,e,aa,ad⟩,j+1,a,h=>by
  subst e;simp at h;simpa using cd.get ad h
theorem cd.vQ{μ:bn}:∀{as:List I} {vs:List Value},as.length=vs.length->(∀(j:Nat) (a:I),as[j]? =some a->∃v,vs[j]? =some v/\bc μ a v)->cd μ as vs
 |[],[],_,_=>rfl
 |[],_::_,h,_=>by simp at h
 |_::_,[],h,_=>by simp at h
 |a::as,v::vs,h,ak=>by
  refine⟨v,vs,rfl,?_,cd.vQ (by simpa using h) λj x ab=>?_⟩
  · obtain⟨u,hu,r⟩:=ak 0 a rfl
    simp at hu;subst hu;exact r
  · simpa using ak (j+1) x (by simpa using ab)
theorem cd.map{μ:bn}{rV:Type}(g:rV->I)(cp:rV->Value)(h:∀x,bc μ (g x) (cp x)):∀l:List rV,cd μ (l.map g) (l.map cp)
 |[]=>rfl
 |x::l=>⟨_,_,rfl,h x,cd.map g cp h l⟩
theorem bc.cells{μ:bn}{a:I}{v:Value}(h:bc μ a v)(af:a≠ .bad):cd μ a.cells v.cells.toList:=by
 cases a with
 |bad=>exact absurd rfl af
 |agg cs=>obtain⟨l,rfl,au⟩:=h;exact au
 |aW vs=>obtain⟨l,rfl,au⟩:=h;exact⟨_,_,rfl,⟨l,rfl,au⟩,rfl⟩
 |bool b=>cases h;exact⟨_,_,rfl,rfl,rfl⟩
 |int k n=>cases h;exact⟨_,_,rfl,rfl,rfl⟩
 |str s=>obtain⟨t,rfl,e⟩:=h;exact⟨_,_,rfl,⟨t,rfl,e⟩,rfl⟩
 |aR=>cases h;exact⟨_,_,rfl,rfl,rfl⟩
 |ptr b off=>obtain⟨i,e,rfl⟩:=h;exact⟨_,_,rfl,⟨i,e,rfl⟩,rfl⟩
 |a_=>cases h;exact⟨_,_,rfl,rfl,rfl⟩
 |slice b off len cap=>
  obtain⟨i,e,ah⟩:=h
  have:v.cells=#[v]:=by
   cases cap with
   |exact c=>cases ah;rfl
   |aY gn=>obtain⟨c,rfl,_⟩:=ah;rfl
   |dead=>obtain⟨_,a,c,rfl⟩:=ah;rfl
  rw[this];exact⟨_,_,rfl,⟨i,e,ah⟩,rfl⟩
 |g_=>cases h;exact⟨_,_,rfl,rfl,rfl⟩
 |map r=>obtain⟨i,e,rfl⟩:=h;exact⟨_,_,rfl,⟨i,e,rfl⟩,rfl⟩
 |fi=>cases h;exact⟨_,_,rfl,rfl,rfl⟩
 |fn f a b=>obtain⟨cu,cs,rfl,aa,ad⟩:=h;exact⟨_,_,rfl,⟨cu,cs,rfl,aa,ad⟩,rfl⟩
 |cc l=>obtain⟨i,e,rfl⟩:=h;exact⟨_,_,rfl,⟨i,e,rfl⟩,rfl⟩
 |eO=>cases h;exact⟨_,_,rfl,rfl,rfl⟩
 |iface t x=>obtain⟨y,rfl,bg⟩:=h;exact⟨_,_,rfl,⟨y,rfl,bg⟩,rfl⟩
theorem bc.vR{μ:bn}{a:I}{v:Value}(h:bc μ a v)(ah:a.bY=true):v.oneCell'=true:=by
 cases a with
 |bad=>simp[I.bY] at ah
 |agg cs=>simp[I.bY] at ah
 |aW vs=>simp[I.bY] at ah
 |bool b=>cases h;rfl
 |int k n=>cases h;rfl
 |str s=>obtain⟨t,rfl,e⟩:=h;rfl
 |aR=>cases h;rfl
 |ptr b off=>obtain⟨i,e,rfl⟩:=h;rfl
 |a_=>cases h;rfl
 |slice b off len cap=>
  obtain⟨i,e,ah⟩:=h
  cases cap with
  |exact c=>cases ah;rfl
  |aY gn=>obtain⟨c,rfl,_⟩:=ah;rfl
  |dead=>obtain⟨_,a,c,rfl⟩:=ah;rfl
 |g_=>cases h;rfl
 |map r=>obtain⟨i,e,rfl⟩:=h;rfl
 |fi=>cases h;rfl
 |fn f a b=>obtain⟨cu,cs,rfl,aa,ad⟩:=h;rfl
 |cc l=>obtain⟨i,e,rfl⟩:=h;rfl
 |eO=>cases h;rfl
 |iface t x=>obtain⟨y,rfl,bg⟩:=h;rfl
def iz(need:Nat)(μ:bn)(r:aT)(cf:Array Value):Prop:=∀t,Nat.testBit need t=true->bc μ (r.get (gO t)) (cf.getD t undef)
theorem iz.mono{need:Nat}{μ aP:bn}{r:aT}{cf:Array Value}(hle:eV μ aP)(h:iz need μ r cf):iz need aP r cf:=λt a6=>(h t a6).mono hle
inductive rW(μ:bn):b1->Deferred->Prop where
 |call (f:Nat) (args:List I) (cap vs:List Value) (h:cd μ args (vs++cap)):rW μ (.call f args) {target:=.fn (.func f) ⟨cap⟩,args:=⟨vs⟩}
 |collected (r:Nat) (i:eG) (h:μ r=some i):rW μ (.collected r) {target:=.collected i.bj,args:=#[]}
theorem rW.mono{μ aP:bn}(hle:eV μ aP){a:b1}{d:Deferred}(h:rW μ a d):rW aP a d:=by
 cases h with
 |call f args cap vs h=>exact .call f args cap vs (h.mono hle)
 |collected r i h=>exact .collected r i (hle _ _ h)
def gz(μ:bn):List b1->List Deferred->Prop
 |[],l=>l=[]
 |a::as,l=>∃d bm,l=d::bm/\rW μ a d/\gz μ as bm
theorem gz.mono{μ aP:bn}(hle:eV μ aP):∀{as:List b1} {bm:List Deferred},gz μ as bm->gz aP as bm
 |[],_,h=>h
 |_::_,_,⟨d,bm,e,aa,ad⟩=>⟨d,bm,e,aa.mono hle,gz.mono hle ad⟩
theorem gz.append{μ:bn}:∀{as bs:List b1} {bm es:List Deferred},gz μ as bm->gz μ bs es->gz μ (as++bs) (bm++es)
 |[],_,_,_,h,al=>by cases h;exact al
 |_::_,_,_,_,⟨d,bm,e,aa,ad⟩,al=>by subst e;exact⟨d,bm++_,rfl,aa,gz.append ad al⟩
def tT(μ:bn)(e:fA)(m:MapEntry):Prop:=bc μ e.key m.key/\bc μ e.val m.val/\e.born=m.born
def fN(μ:bn):List fA->List MapEntry->Prop
 |[],l=>l=[]
 |e::es,l=>∃m ms,l=m::ms/\tT μ e m/\fN μ es ms
theorem tT.mono{μ aP:bn}(hle:eV μ aP){e:fA}{m:MapEntry}(h:tT μ e m):tT aP e m:=⟨h.1.mono hle,h.2.1.mono hle,h.2.2⟩
theorem fN.mono{μ aP:bn}(hle:eV μ aP):∀{es:List fA} {ms:List MapEntry},fN μ es ms->fN aP es ms
 |[],_,h=>h
 |_::_,_,⟨m,ms,e,aa,ad⟩=>⟨m,ms,e,aa.mono hle,fN.mono hle ad⟩
def BC(μ:bn)(cs:List I)(c:Array Value)(base:Nat):Prop:=∀(j:Nat) (v:I),cs[j]? =some v->∃u,c[base+j]? =some u/\bc μ v u
def BD(k:eC)(cs:List I)(i:eG)(bf ae ft fu:Nat):Prop:=match k with
 |.own=>i.base=0/\i.size=cs.length/\ft=bf/\fu=ae
 |.aY=>cs.length<=i.size/\∀j,j<i.size->ft<=i.base+j->i.base+j<fu->bf<=j/\j<ae
 |.ro=>True
 |.fz=>True
def mU(μ:bn)(o:cx)(i:eG)(w:World):Prop:=match o with
 |.cells cs el k bf ae=>∃c ft fu,w.heap[i.bj]? =some (.cells c el (ft,fu))/\BC μ cs c i.base/\i.base+i.size=c.size/\BD k cs i bf ae ft fu
 |.map es clock=>∃ents,w.heap[i.bj]? =some (.map ⟨ents⟩ clock)/\fN μ es ents
 |.oi s pos=>i.base=0/\∃full,w.heap[i.bj]? =some (.stringIter full pos)/\full.data.toList.drop pos=s
 |.mapIter none since seen last=>i.base=0/\w.heap[i.bj]? =some (.mapIter none since ⟨seen⟩ last)
 |.mapIter (some m) since seen last=>i.base=0/\∃j,μ m=some j/\w.heap[i.bj]? =some (.mapIter (some j.bj) since ⟨seen⟩ last)
 |.loop st fL need l3 params as cn ee=>∃cf ho fn,μ ee=some ho/\w.heap[i.bj]? =some (.loop {state:=st,pending:=fL,fn:=fn,tmps:=cf,params:=⟨params⟩,assign:=as,body:=cn,defers:=ho.bj})/\iz need μ l3 cf/\ic cf.size as=true/\ic cf.size cn=true/\∀t∈params,t<cf.size
 |.defrd none=>w.heap[i.bj]? =some (.deferred none)
 |.defrd (some bm)=>∃l,w.heap[i.bj]? =some (.deferred (some l))/\gz μ bm l
 |.raw o=>i.base=0/\w.heap[i.bj]? =some o
theorem mU.mono{μ aP:bn}(hle:eV μ aP){o:cx}{i:eG}{w w':World}(hw:w'.heap[i.bj]? =w.heap[i.bj]?)(h:mU μ o i w):mU aP o i w':=by
 cases o with
 |cells cs el k bf ae=>
  obtain⟨c,ft,fu,aa,ad,ax⟩:=h
  exact⟨c,ft,fu,hw.trans aa,λj v e=>let⟨u,hu,r⟩:=ad j v e;⟨u,hu,r.mono hle⟩,ax⟩
 |map es clock=>obtain⟨ents,aa,ad⟩:=h;exact⟨ents,hw.trans aa,ad.mono hle⟩
 |oi s pos=>obtain⟨h0,full,aa,ad⟩:=h;exact⟨h0,full,hw.trans aa,ad⟩
 |mapIter m since seen last=>
  cases m with
  |none=>exact⟨h.1,hw.trans h.2⟩
  |some m=>obtain⟨h0,j,aa,ad⟩:=h;exact⟨h0,j,hle _ _ aa,hw.trans ad⟩
 |loop st fL fn l3 params as cn ee=>obtain⟨cf,ho,BE,aa,ad,ax,aO⟩:=h;exact⟨cf,ho,BE,hle _ _ aa,hw.trans ad,ax.mono hle,aO⟩
 |defrd calls=>
  cases calls with
  |none=>exact hw.trans h
  |some bm=>obtain⟨l,aa,ad⟩:=h;exact⟨l,hw.trans aa,ad.mono hle⟩
 |raw o=>exact⟨h.1,hw.trans h.2⟩
def cx.mV:cx->Bool
 |.cells _ _ .ro _ _=>true
 |.raw _=>true
 |_=>false
structure br(μ:bn)(H:J)(w:World):Prop where
 rel:∀b o i,H.get b=some o->μ b=some i->mU μ o i w
 inj:∀b c i j,H.get b≠none->(∃o,H.get c=some o/\o.mV=false)->μ b=some i->μ c=some j->i.bj=j.bj->b=c
 lt:∀b i,μ b=some i->b<H.n/\i.bj<w.heap.size
 bound:∀b,H.n<=b->H.get b=none
structure cb(μ:bn)(H:J)(w:World)(aP:bn)(aX:J)(w':World):Prop where
 le:eV μ aP
 size:w.heap.size<=w'.heap.size
 n:H.n<=aX.n
 live:∀b,b<H.n->aX.get b≠none->H.get b≠none
 idle:∀b,b<H.n->μ b=none->aX.get b=H.get b
 old:∀r,r<w.heap.size->(∀b i,H.get b≠none->μ b=some i->i.bj≠r)->w'.heap[r]? =w.heap[r]?
 new:∀b i,μ b=none->aP b=some i->H.n<=b/\(w.heap.size<=i.bj\/∃c o j,H.get c=some o/\o.mV=false/\μ c=some j/\j.bj=i.bj)
 ro:∀b o i,H.get b=some o->o.mV=true->μ b=some i->aX.get b=some o/\w'.heap[i.bj]? =w.heap[i.bj]?
 os:w'.os=w.os
 out:w'.output=w.output
 tape:w'.tape=w.tape
 drawn:w.drawn<=w'.drawn
theorem cb.refl(μ:bn)(H:J)(w:World):cb μ H w μ H w where
 le:=eV.refl μ
 size:=Nat.le_refl _
 n:=Nat.le_refl _
 live:=λ_ _ h=>h
 idle:=λ_ _ _=>rfl
 old:=λ_ _ _=>rfl
 new:=λb i h al=>by rw[h] at al;cases al
 ro:=λ_ _ _ h _ _=>⟨h,rfl⟩
 os:=rfl
 out:=rfl
 tape:=rfl
 drawn:=Nat.le_refl _
theorem cb.trans{μ gq yQ:bn}{H H1 az:J}{w dI c9:World}(ak:br μ H w)(lr:br gq H1 dI)(h:cb μ H w gq H1 dI)(al:cb gq H1 dI yQ az c9):cb μ H w yQ az c9 where
 le:=h.le.trans al.le
 size:=Nat.le_trans h.size al.size
 n:=Nat.le_trans h.n al.n
 live:=λb af au=>h.live b af (al.live b (Nat.lt_of_lt_of_le af h.n) au)
 idle:=λb af hm=>by
  rw[<-h.idle b af hm]
  refine al.idle b (Nat.lt_of_lt_of_le af h.n) ?_
  cases aa:gq b with
  |none=>rfl
  |some i=>exact absurd (h.new b i hm aa).1 (Nat.not_le.2 af)
 old:=λr ai aK=>by
  rw[al.old r (Nat.lt_of_lt_of_le ai h.size),h.old r ai aK]
  intro b i au hm he
  cases yR:μ b with
  |some j=>
   have:=h.le b j yR
   rw[hm] at this;cases this
   exact aK b i (h.live b (ak.lt b i yR).1 au) yR he
  |none=>
   obtain⟨_,ae|⟨c,o,j,ah,_,aL,lu⟩⟩:=h.new b i yR hm
   · omega
   · exact aK c j (by rw[ah];simp) aL (lu.trans he)
 new:=λb i af di=>by
  cases aa:gq b with
  |some j=>
   have:=al.le b j aa
   rw[di] at this;cases this
   exact h.new b i af aa
  |none=>
   obtain⟨aK,ae|⟨c,o,j,ah,ha,aL,lu⟩⟩:=al.new b i aa di
   · exact⟨Nat.le_trans h.n aK,.inl (Nat.le_trans h.size ae)⟩
   · refine⟨Nat.le_trans h.n aK,?_⟩
     cases h0:μ c with
     |some ji=>
      have:=h.le c ji h0
      rw[aL] at this;cases this
      have tU:H.get c≠none:=h.live c (ak.lt c j h0).1 (by rw[ah];simp)
      cases aj:H.get c with
      |none=>exact absurd aj tU
      |some rX=>
       cases yS:rX.mV with
       |false=>exact .inr ⟨c,rX,j,aj,yS,h0,lu⟩
       |true=>
        have:=(h.ro c rX j aj yS h0).1
        rw[ah] at this;cases this
        rw[ha] at yS;cases yS
     |none=>
      obtain⟨_,ae|⟨c',o',ji,ox,Mw,BF,Mx⟩⟩:=h.new c j h0 aL
      · exact .inl (lu▸ae)
      · exact .inr ⟨c',o',ji,ox,Mw,BF,Mx.trans lu⟩
 ro:=λb o i af ai ae=>by
  obtain⟨aa,ad⟩:=h.ro b o i af ai ae
  obtain⟨ax,aO⟩:=al.ro b o i aa ai (h.le b i ae)
  exact⟨ax,aO.trans ad⟩
 os:=al.os.trans h.os
 out:=al.out.trans h.out
 tape:=al.tape.trans h.tape
 drawn:=Nat.le_trans h.drawn al.drawn
theorem br.of_heap{μ:bn}{H:J}{w w':World}(h:br μ H w)(he:w'.heap=w.heap):br μ H w' where
 rel:=λb o i af ae=>(h.rel b o i af ae).mono (eV.refl μ) (by rw[he])
 inj:=h.inj
 lt:=λb i ae=>by rw[he];exact h.lt b i ae
 bound:=h.bound
theorem cb.of_heap{μ:bn}{H:J}{w w':World}(he:w'.heap=w.heap)(bd:w'.os=w.os)(bl:w'.output=w.output)(a6:w'.tape=w.tape)(aG:w.drawn<=w'.drawn:=by first|exact Nat.le_refl _|exact Nat.le_succ _|assumption):cb μ H w μ H w' where
 le:=eV.refl μ
 size:=by rw[he];exact Nat.le_refl _
 n:=Nat.le_refl _
 live:=λ_ _ h=>h
 idle:=λ_ _ _=>rfl
 old:=λ_ _ _=>by rw[he]
 new:=λb i h al=>by rw[h] at al;cases al
 ro:=λ_ _ _ h _ _=>⟨h,by rw[he]⟩
 os:=bd
 out:=bl
 tape:=a6
 drawn:=aG
def gb(μ:bn)(b:Nat)(i:eG):bn:=λc=>if c=b then some i else μ c
theorem gf(μ:bn)(b:Nat)(i:eG):gb μ b i b=some i:=by simp[gb]
theorem g0(μ:bn){b c:Nat}(i:eG)(h:c≠b):gb μ b i c=μ c:=by simp[gb,h]
theorem br.fresh{μ:bn}{H:J}{w:World}(h:br μ H w):μ H.n=none:=by
 cases e:μ H.n with
 |none=>rfl
 |some i=>exact absurd (h.lt _ _ e).1 (Nat.lt_irrefl _)
theorem br.nB{μ:bn}{H:J}{w:World}(h:br μ H w)(i:eG):eV μ (gb μ H.n i):=λb j e=>by
 rw[g0];exact e
 intro af;subst af;rw[h.fresh] at e;cases e
theorem br.alloc{μ:bn}{H:J}{w:World}(h:br μ H w)(o:cx)(x:Obj)(sz:Nat)
  (ai:mU (gb μ H.n ⟨w.heap.size,0,sz⟩) o ⟨w.heap.size,0,sz⟩ (w.alloc x)):
  br (gb μ H.n ⟨w.heap.size,0,sz⟩) (H.push o) (w.alloc x)/\cb μ H w (gb μ H.n ⟨w.heap.size,0,sz⟩) (H.push o) (w.alloc x):=by
 have hle:=h.nB ⟨w.heap.size,0,sz⟩
 have hold:∀r,r<w.heap.size->(w.alloc x).heap[r]? =w.heap[r]? :=λr ai=>by
  simp only[World.alloc,Array.getElem?_push];rw[if_neg (by omega)]
 constructor
 · refine⟨λb ob i af ae=>?_,λb c i j af ah ae aL e=>?_,λb i ae=>?_,λb af=>?_⟩
   · rw[J.eA] at af
     by_cases e:b=H.n
     · rw[if_pos e] at af;subst e;cases af
       rw[gf] at ae;cases ae
       exact ai
     · rw[if_neg e] at af;rw[g0 _ _ e] at ae
       exact(h.rel b ob i af ae).mono hle (hold _ (h.lt b i ae).2)
   · by_cases aA:b=H.n
     · by_cases aC:c=H.n
       · rw[aA,aC]
       · subst aA;rw[gf] at ae;cases ae
         rw[g0 _ _ aC] at aL
         have:=(h.lt c j aL).2
         simp only at e;omega
     · by_cases aC:c=H.n
       · subst aC;rw[gf] at aL;cases aL
         rw[g0 _ _ aA] at ae
         have:=(h.lt b i ae).2
         simp only at e;omega
       · rw[g0 _ _ aA] at ae;rw[g0 _ _ aC] at aL
         rw[J.eA,if_neg aA] at af
         rw[J.eA,if_neg aC] at ah
         exact h.inj b c i j af ah ae aL e
   · by_cases e:b=H.n
     · subst e;rw[gf] at ae;cases ae;simp
     · rw[g0 _ _ e] at ae
       have:=h.lt b i ae
       simp only[J.mT,World.size_alloc];omega
   · simp only[J.mT] at af
     rw[J.eA,if_neg (by omega)];exact h.bound b (by omega)
 · refine⟨hle,by simp,by simp,λb af au=>?_,λb af _=>(by rw[J.eA,if_neg (by omega)]),λr ai _=>hold r ai,λb i af di=>?_,λb ob i af _ ae=>?_,rfl,rfl,rfl,Nat.le_refl _⟩
   · rw[J.eA,if_neg (by omega)] at au;exact au
   · by_cases e:b=H.n
     · subst e;rw[gf] at di;cases di;exact⟨Nat.le_refl _,.inl (Nat.le_refl _)⟩
     · rw[g0 _ _ e,af] at di;cases di
   · have:=h.lt b i ae
     rw[J.eA,if_neg (by omega)]
     exact⟨af,hold _ this.2⟩
theorem br.update{μ:bn}{H:J}{w w':World}(h:br μ H w){b:Nat}{o o':cx}{i:eG}(af:H.get b=some o)(ha:o.mV=false)(ae:μ b=some i)
  (hs:w'.heap.size=w.heap.size)(bd:∀r,r≠i.bj->w'.heap[r]? =w.heap[r]?)(vS:w'.os=w.os)(vT:w'.output=w.output)(BG:w'.tape=w.tape)(ai:mU μ o' i w')(hdr:w.drawn<=w'.drawn:=by first|exact Nat.le_refl _|assumption):
  br μ (H.set b (some o')) w'/\cb μ H w μ (H.set b (some o')) w':=by
 have tU:H.get b≠none:=by rw[af];simp
 have px:∀c,(H.set b (some o')).get c≠none->H.get c≠none:=λc ah=>by
  rw[J.b_] at ah
  by_cases e:c=b
  · subst e;exact tU
  · rw[if_neg e] at ah;exact ah
 constructor
 · refine⟨λc nC j ah aL=>?_,λc d j k ah aG=>h.inj c d j k (px c ah) (by
     obtain⟨x,ab,oy⟩:=aG
     rw[J.b_] at ab
     by_cases e:d=b
     · subst e;exact⟨o,af,ha⟩
     · rw[if_neg e] at ab;exact⟨x,ab,oy⟩),λc j aL=>by rw[hs];exact h.lt c j aL,λc ah=>?_⟩
   · rw[J.b_] at ah
     by_cases e:c=b
     · subst e;rw[if_pos rfl] at ah;cases ah
       rw[ae] at aL;cases aL;exact ai
     · rw[if_neg e] at ah
       refine(h.rel c nC j ah aL).mono (eV.refl μ) (bd _ λcY=>e (h.inj c b j i (by rw[ah];simp) ⟨o,af,ha⟩ aL ae cY))
   · rw[J.b_,if_neg]
     · exact h.bound c ah
     · intro e;subst e;have:=(h.lt c i ae).1;simp at ah;omega
 · refine⟨eV.refl μ,by omega,by simp,λc _ ah=>px c ah,λc _ hm=>(by rw[J.b_,if_neg];intro e;subst e;rw[ae] at hm;cases hm),λr ai aK=>bd r λe=>aK b i tU ae e.symm,λc j aa ad=>(by rw[aa] at ad;cases ad),λc nC j ah qw aL=>?_,vS,vT,BG,hdr⟩
   have dC:c≠b:=by intro e;subst e;rw[af] at ah;cases ah;rw[ha] at qw;cases qw
   refine⟨by rw[J.b_,if_neg dC];exact ah,bd _ λe=>dC (h.inj c b j i (by rw[ah];simp) ⟨o,af,ha⟩ aL ae e)⟩
end aD
namespace aD
open Go
theorem add_plain(b o n:Nat):(⟨b,o,none⟩:Addr).add n=⟨b,o+n,none⟩:=by
 unfold Addr.add
 by_cases h:n=0
 · simp[h]
 · simp[h]
theorem py{α:Type}:∀(n:Nat) (l:List α),nth n l=l[n]?
 |0,[]=>rfl
 |_+1,[]=>rfl
 |0,_::_=>rfl
 |n+1,_::l=>by simpa[nth] using py n l
theorem mW{α:Type}:∀(n:Nat) (l:List α),hW n l=l.drop n
 |0,l=>by simp[hW]
 |_+1,[]=>by simp[hW]
 |n+1,_::l=>by simpa[hW] using mW n l
theorem rY:∀(n:Nat) (l r:List I),takeN n l=some r->n<=l.length/\r=l.take n
 |0,l,r,h=>by simp[takeN] at h;subst h;simp
 |_+1,[],r,h=>by simp[takeN] at h
 |n+1,a::l,r,h=>by
  simp only[takeN] at h
  cases e:takeN n l with
  |none=>simp[e] at h
  |some r'=>
   simp[e] at h;subst h
   obtain⟨aa,ad⟩:=rY n l r' e
   simp[ad];omega
theorem yT:∀(n:Nat) (vs cs r:List I),ff n vs cs=some r->
  r.length=cs.length/\(vs≠[]->n+vs.length<=cs.length)/\(∀v∈vs,v.bY=true)/\∀j,r[j]? =if n<=j/\j<n+vs.length then vs[j-n]? else cs[j]?
 |0,[],cs,r,h=>by
  simp[ff] at h;subst h
  refine⟨rfl,λh=>absurd rfl h,λv aE=>(by cases aE),λj=>by rw[if_neg (by simp)]⟩
 |0,_::_,[],r,h=>by simp[ff] at h
 |0,v::vs,c::cs,r,h=>by
  simp only[ff] at h
  cases ah:v.bY with
  |false=>simp[ah] at h
  |true=>
   simp only[ah] at h
   cases e:ff 0 vs cs with
   |none=>simp[e] at h
   |some r'=>
    simp[e] at h;subst h
    obtain⟨aa,ad,ax,aO⟩:=yT 0 vs cs r' e
    refine⟨by simp[aa],λ_=>?_,λx ab=>?_,λj=>?_⟩
    · cases vs with
      |nil=>simp
      |cons a l=>have:=ad (by simp);simp at this⊢;omega
    · cases ab with
      |head=>exact ah
      |tail _ ab=>exact ax x ab
    · cases j with
      |zero=>simp
      |succ j=>simpa using aO j
 |n+1,[],cs,r,h=>by
  simp[ff] at h;subst h
  refine⟨rfl,λh=>absurd rfl h,λv aE=>(by cases aE),λj=>by rw[if_neg (by simp)]⟩
 |n+1,_::_,[],r,h=>by simp[ff] at h
 |n+1,v::vs,c::cs,r,h=>by
  simp only[ff] at h
  cases e:ff n (v::vs) cs with
  |none=>simp[e] at h
  |some r'=>
   simp[e] at h;subst h
   obtain⟨aa,ad,ax,aO⟩:=yT n (v::vs) cs r' e
   refine⟨by simp[aa],λ_=>?_,ax,λj=>?_⟩
   · have:=ad (by simp);simp at this⊢;omega
   · cases j with
     |zero=>simp
     |succ j=>
      have:=aO j
      simp only[List.getElem?_cons_succ,this,List.length_cons]
      have aA:(n+1<=j+1/\j+1<n+1+(vs.length+1))<->(n<=j/\j<n+(vs.length+1)):=by omega
      have aC:j+1-(n+1)=j-n:=by omega
      simp only[aA,aC]
theorem F3{w:World}{bj el ft fu:Nat}{c:Array Value}(h:w.heap[bj]? =some (.cells c el (ft,fu)))(k:Nat):w.cell? ⟨bj,k,none⟩=c[k]? :=by
 simp[World.cell?,h]
theorem F4{μ:bn}{H:J}{w:World}(ak:br μ H w){b off:Nat}{i:eG}(ae:μ b=some i){cs:List I}{el bf eH:Nat}{k:eC}(af:H.get b=some (.cells cs el k bf eH))
  {v:I}(aE:cs[off]? =some v):∃u,w.cell? ⟨i.bj,i.base+off,none⟩=some u/\bc μ v u:=by
 obtain⟨c,ft,fu,aa,ad,_⟩:=ak.rel b _ i af ae
 obtain⟨u,hu,r⟩:=ad off v aE
 exact⟨u,by rw[F3 aa,hu],r⟩
theorem F5{P:Program}{w:World}{a:Addr}{u:Value}(h:w.cell? a=some u):(_root_.Go.load a).run P w=.ok u w:=by
 rw[run_load];simp[h]
theorem My{P:Program}{μ:bn}{H:J}{w:World}(ak:br μ H w){b:Nat}{i:eG}(ae:μ b=some i){cs:List I}{el bf eH:Nat}{k:eC}(af:H.get b=some (.cells cs el k bf eH))(off:Nat):
  ∀(n s:Nat) (acc:Array Value) (qx:List I),takeN n (hW (off+s) cs)=some qx->
   ∃us:List Value,(loadCellsFrom ⟨i.bj,i.base+off,none⟩ s n acc).run P w=.ok (acc++us.toArray) w/\cd μ qx us:=by
 intro n
 induction n with
 |zero=>
  intro s acc qx h
  simp[takeN] at h;subst h
  exact⟨[],by simp[loadCellsFrom],rfl⟩
 |succ n ba=>
  intro s acc qx h
  rw[mW] at h
  cases aG:cs.drop (off+s) with
  |nil=>rw[aG] at h;simp[takeN] at h
  |cons a l=>
   rw[aG] at h
   simp only[takeN] at h
   cases e:takeN n l with
   |none=>simp[e] at h
   |some r=>
    simp[e] at h;subst h
    have a2:cs[off+s]? =some a:=by
     have:=congrArg (·[0]?) aG
     simpa[List.getElem?_drop] using this
    have au:l=hW (off+(s+1)) cs:=by
     rw[mW]
     have:=congrArg (List.drop 1) aG
     simp only[List.drop_drop,List.drop_succ_cons,List.drop_zero] at this
     rw[<-this];congr 1
    obtain⟨u,hu,ai⟩:=F4 ak ae af a2
    obtain⟨us,aa,ad⟩:=ba (s+1) (acc.push u) r (by rw[<-au];exact e)
    refine⟨u::us,?_,⟨u,us,rfl,ai,ad⟩⟩
    have nD:w.cell? ((⟨i.bj,i.base+off,none⟩:Addr).add s)=some u:=by rw[add_plain,Nat.add_assoc];exact hu
    simp only[loadCellsFrom,Sem.run_bind,F5 nD,Result.andThen_ok,aa]
    congr 1
    apply Array.ext'
    simp
theorem qy{P:Program}{μ:bn}{H:J}{w:World}(ak:br μ H w){b off n:Nat}{i:eG}(ae:μ b=some i){qx:List I}(h:loadCells H b off n=some qx):
  ∃us:List Value,(_root_.Go.loadCells ⟨i.bj,i.base+off,none⟩ n).run P w=.ok ⟨us⟩ w/\cd μ qx us:=by
 unfold loadCells at h
 split at h
 · rename_i cs el k bf eH af
   obtain⟨us,aa,ad⟩:=My (P:=P) ak ae af off n 0 #[] qx h
   exact⟨us,by simpa[_root_.Go.loadCells] using aa,ad⟩
 · cases h
theorem BH{P:Program}{μ:bn}{H:J}{w:World}(ak:br μ H w){b off:Nat}{i:eG}(ae:μ b=some i){v:I}(h:aq H b off=some v):
  ∃u,(_root_.Go.load ⟨i.bj,i.base+off,none⟩).run P w=.ok u w/\bc μ v u:=by
 unfold aq at h
 split at h
 · rename_i cs el k bf eH af
   rw[py] at h
   obtain⟨u,hu,ai⟩:=F4 ak ae af h
   exact⟨u,F5 hu,ai⟩
 · cases h
theorem F6(P:Program)(bj k:Nat):∀(vs:List Value) (w:World) (i:Nat) (c:Array Value) (el ft fu:Nat),w.heap[bj]? =some (.cells c el (ft,fu))->
  (∀v∈vs,v.oneCell'=true)->k+i+vs.length<=c.size->(∀j,k+i<=j->j<k+i+vs.length->¬(ft<=j/\j<fu))->
  ∃w' c',(_root_.Go.storeCells ⟨bj,k,none⟩ vs i).run P w=.ok () w'/\w'.heap[bj]? =some (.cells c' el (ft,fu))/\(∀r,r≠bj->w'.heap[r]? =w.heap[r]?)/\w'.heap.size=w.heap.size/\
   w'.os=w.os/\w'.output=w.output/\(w'.tape=w.tape/\w'.drawn=w.drawn)/\c'.size=c.size/\∀j,c'[j]? =if k+i<=j/\j<k+i+vs.length then vs[j-(k+i)]? else c[j]? :=by
 intro vs
 induction vs with
 |nil=>
  intro w i c el ft fu af _ _ _
  exact⟨w,c,by simp[_root_.Go.storeCells],af,λ_ _=>rfl,rfl,rfl,rfl,⟨rfl,rfl⟩,rfl,λj=>by rw[if_neg (by simp)]⟩
 |cons v vs ba=>
  intro w i c el ft fu af ah hs hf
  simp only[List.length_cons] at hs hf
  have cy:k+i<c.size:=by omega
  have qz:w.cell? ⟨bj,k+i,none⟩=some c[k+i]:=by rw[F3 af];exact Array.getElem?_eq_getElem cy
  have yU:w.frozen? ⟨bj,k+i,none⟩=false:=by
   have:=hf (k+i) (by omega) (by omega)
   simp only[World.frozen?,af]
   cases aa:decide (ft<=k+i) with
   |false=>rfl
   |true=>
    cases ad:decide (k+i<fu) with
    |false=>rfl
    |true=>exact absurd ⟨of_decide_eq_true aa,of_decide_eq_true ad⟩ this
  have hp:(w.setCell ⟨bj,k+i,none⟩ v).heap[bj]? =some (.cells (c.setIfInBounds (k+i) v) el (ft,fu)):=by
   simp[World.setCell,Array.getElem?_modify,af]
  obtain⟨w',c',aa,ad,ax,aO,bZ,dj,ek,g1,fO⟩:=ba (w.setCell ⟨bj,k+i,none⟩ v) (i+1) (c.setIfInBounds (k+i) v) el ft fu hp (λx ab=>ah x (.tail _ ab)) (by simp;omega)
   (λj ZR oz=>hf j (by omega) (by omega))
  refine⟨w',c',?_,ad,λr ai=>?_,?_,bZ,dj,ek,by simpa using g1,λj=>?_⟩
  · simp only[_root_.Go.storeCells,Sem.run_bind,add_plain,run_store P w ⟨bj,k+i,none⟩ v .plain (ah v (.head _)),qz,yU,Bool.false_eq_true,if_false,Result.andThen_ok,aa]
  · rw[ax r ai];simp only[World.setCell,Array.getElem?_modify]
    rw[if_neg (λe=>ai e.symm)]
  · rw[aO];simp[World.setCell]
  · rw[fO j]
    by_cases e:j=k+i
    · subst e
      rw[if_neg (by omega),if_pos (by simp),Array.getElem?_setIfInBounds]
      simp[cy]
    · by_cases aC:k+(i+1)<=j/\j<k+(i+1)+vs.length
      · rw[if_pos aC,if_pos (by simp only[List.length_cons];omega)]
        have:j-(k+i)=(j-(k+(i+1)))+1:=by omega
        rw[this];simp
      · rw[if_neg aC,if_neg (by simp only[List.length_cons];omega),Array.getElem?_setIfInBounds]
        rw[if_neg (λcY=>e cY.symm)]
theorem cd.vR{μ:bn}:∀{as:List I} {vs:List Value},cd μ as vs->(∀a∈as,a.bY=true)->∀v∈vs,v.oneCell'=true
 |[],_,h,_=>by cases h;intro v aE;cases aE
 |a::as,_,⟨v,vs,e,aa,ad⟩,ah=>by
  subst e
  intro x ab
  cases ab with
  |head=>exact aa.vR (ah a (.head _))
  |tail _ ab=>exact cd.vR ad (λa a2=>ah a (.tail _ a2)) x ab
theorem Mz{k:eC}{bf ae off n:Nat}(hw:jf k bf ae off n=true){cs:List I}{i:eG}{ft fu:Nat}(aw:BD k cs i bf ae ft fu)(dO:n=0\/off+n<=i.size):
  ∀j,i.base+off<=j->j<i.base+off+n->¬(ft<=j/\j<fu):=by
 intro j aa ad ⟨ax,aO⟩
 cases k with
 |ro=>simp[jf] at hw
 |fz=>simp[jf] at hw
 |own=>
  obtain⟨af,hs,rfl,rfl⟩:=aw
  simp only[jf,Bool.or_eq_true,Nat.ble_eq] at hw
  omega
 |aY=>
  obtain⟨hs,hf⟩:=aw
  simp only[jf,Bool.or_eq_true,Nat.ble_eq] at hw
  have:=hf (j-i.base) (by omega) (by omega) (by omega)
  omega
theorem vU{P:Program}{μ:bn}{H:J}{w:World}(ak:br μ H w){b off:Nat}{i:eG}(ae:μ b=some i){vs:List I}{us:List Value}(aE:cd μ vs us){aX:J}
  (h:storeCells H b off vs=some aX):
  ∃w',(_root_.Go.storeCells ⟨i.bj,i.base+off,none⟩ us).run P w=.ok () w'/\br μ aX w'/\cb μ H w μ aX w':=by
 unfold storeCells at h
 split at h
 · rename_i cs el k bf eH af
   split at h
   · rename_i hw
     split at h
     · rename_i b6 bl
       cases h
       obtain⟨du,dp,l8,oA⟩:=yT _ _ _ _ bl
       obtain⟨c,ft,fu,aa,ad,ax,aO⟩:=ak.rel b _ i af ae
       have hlen:=aE.length
       have bL:vs≠[]->off+vs.length<=i.size/\i.base+off+vs.length<=c.size:=λdC=>by
        have:=dp dC
        have qA:=ad (cs.length-1) (cs[cs.length-1]'(by cases vs with|nil=>exact absurd rfl dC|cons a l=>simp at this;omega)) (List.getElem?_eq_getElem _)
        obtain⟨u,hu,_⟩:=qA
        have cy:i.base+(cs.length-1)<c.size:=by
         rcases Nat.lt_or_ge (i.base+(cs.length-1)) c.size with h|h
         · exact h
         · rw[Array.getElem?_eq_none h] at hu;cases hu
        have yV:0<vs.length:=by cases vs with|nil=>exact absurd rfl dC|cons a l=>simp
        cases k with
        |ro=>simp[jf] at hw
        |fz=>simp[jf] at hw
        |own=>obtain⟨dD,ef,_⟩:=aO;omega
        |aY=>obtain⟨dD,_⟩:=aO;omega
       by_cases dC:vs=[]
       · subst dC
         have:us=[]:=by cases us with|nil=>rfl|cons a l=>simp at hlen
         subst this
         have iN:b6=cs:=by
          apply List.ext_getElem?
          intro j;rw[oA j,if_neg (by simp)]
         subst iN
         obtain⟨bb,a3⟩:=ak.update (w':=w) af (by cases k<;>first|rfl|simp[jf] at hw) ae rfl (λ_ _=>rfl) rfl rfl rfl (ak.rel b _ i af ae)
         exact⟨w,by simp[_root_.Go.storeCells],bb,a3⟩
       · obtain⟨s1,s2⟩:=bL dC
         obtain⟨w',c',aA,aC,bN,eW,iO,fg,eI,fP,fE⟩:=F6 P i.bj (i.base+off) us w 0 c el ft fu aa (aE.vR l8) (by omega)
          (by have:=Mz hw aO (.inr s1);rw[hlen] at this;simpa using this)
         obtain⟨bb,a3⟩:=ak.update (w':=w') (o':=.cells b6 el k bf eH) af (by cases k<;>first|rfl|simp[jf] at hw) ae eW bN iO fg eI.1 (hdr:=Nat.le_of_eq eI.2.symm)
          ⟨c',ft,fu,aC,λj v aL=>by
           rw[oA j] at aL
           rw[fE]
           by_cases ai:off<=j/\j<off+vs.length
           · rw[if_pos ai] at aL
             rw[if_pos (by omega)]
             have:i.base+j-(i.base+off+0)=j-off:=by omega
             rw[this];exact aE.get aL
           · rw[if_neg ai] at aL
             rw[if_neg (by omega)]
             exact ad j v aL,by omega,by
           cases k with
           |ro=>trivial
           |fz=>trivial
           |own=>obtain⟨dD,ef,g2⟩:=aO;exact⟨dD,by omega,g2⟩
           |aY=>obtain⟨dD,ef⟩:=aO;exact⟨by omega,ef⟩⟩
         exact⟨w',aA,bb,a3⟩
     · cases h
   · cases h
 · cases h
theorem World.heap_alloc_new(w:World)(x:Obj):(w.alloc x).heap[w.heap.size]? =some x:=by unfold World.alloc;simp
theorem yW{P:Program}{μ:bn}{H:J}{w:World}(ak:br μ H w){el b:Nat}{cs:List I}{us:List Value}{aX:J}(aE:cd μ cs us)(h:newRow H el cs=some (b,aX)):
  (_root_.Go.newRow el ⟨us⟩).run P w=.ok ⟨w.heap.size,0,none⟩ (w.alloc (.cells ⟨us⟩ el))/\b=H.n/\gb μ H.n ⟨w.heap.size,0,us.length⟩ b=some ⟨w.heap.size,0,us.length⟩/\
   br (gb μ H.n ⟨w.heap.size,0,us.length⟩) aX (w.alloc (.cells ⟨us⟩ el))/\cb μ H w (gb μ H.n ⟨w.heap.size,0,us.length⟩) aX (w.alloc (.cells ⟨us⟩ el)):=by
 unfold newRow at h
 split at h
 · cases h
   have hle:=ak.nB ⟨w.heap.size,0,us.length⟩
   obtain⟨bb,a3⟩:=ak.alloc (.cells cs el .own 0 0) (.cells ⟨us⟩ el) us.length
    ⟨⟨us⟩,0,0,by exact World.heap_alloc_new _ _,λj v aL=>by
      obtain⟨u,hu,ai⟩:=aE.get aL
      exact⟨u,by simpa using hu,ai.mono hle⟩,by simp,rfl,aE.length.symm,rfl,rfl⟩
   exact⟨by simp[_root_.Go.newRow],rfl,gf _ _ _,bb,a3⟩
 · cases h
section types
variable {P:Program} {w:World} {t:TypeId}
theorem run_typeInfo{i:TypeInfo}(h:P.info? t=some i):(typeInfo t).run P w=.ok i w:=by simp[typeInfo,h]
theorem bW{d:TypeDesc}(h:P.underlying t=some d):(underlying t).run P w=.ok d w:=by simp[underlying,h]
theorem run_sizeOf{n:Nat}(h:dt P t=some n):(_root_.Go.sizeOf t).run P w=Result.ok n w:=by
 unfold dt at h
 split at h
 · rename_i i ae;cases h;simp[_root_.Go.sizeOf,run_typeInfo ae]
 · cases h
theorem tV{b:Bool}(h:l4 P t=some b):(isAgg t).run P w=.ok b w:=by
 unfold l4 at h
 cases hu:P.underlying t with
 |none=>rw[hu] at h;cases h
 |some d=>
  rw[hu] at h
  simp only[isAgg,Sem.run_bind,bW hu,Result.andThen_ok]
  cases d<;>cases h<;>rfl
theorem lv{z:I}(h:ew P t=some z):∃v,(zeroValue t).run P w=.ok v w/\z=nw v/\z≠ .bad:=by
 unfold ew at h
 split at h
 · rename_i i ae
   split at h
   · rename_i v aE
     split at h
     · cases h
     · rename_i a dC
       cases h
       exact⟨v,by simp[zeroValue,run_typeInfo ae,aE],rfl,dC⟩
   · cases h
 · cases h
end types
end aD
namespace aD
open Go
def e7(P:Program)(μ:bn)(H:J)(w:World)(s:Sem Value)(v:I)(aX:J):Prop:=
 ∃aP w' v',s.run P w=.ok v' w'/\bc aP v v'/\br aP aX w'/\cb μ H w aP aX w'
theorem e7.same{P:Program}{μ:bn}{H:J}{w:World}{s:Sem Value}{v:I}{v':Value}(ak:br μ H w)(hs:s.run P w=.ok v' w)(aE:bc μ v v'):e7 P μ H w s v H:=
 ⟨μ,w,v',hs,aE,ak,cb.refl _ _ _⟩
section
variable {P:Program} {μ:bn} {H:J} {w:World}
theorem MA(ak:br μ H w){e:TypeId}{z:I}(a4:ew P e=some z){b:Nat}{aX:J}(ai:newRow H e z.cells=some (b,aX)):
  e7 P μ H w (Instr.alloc e true (.tuple #[])) (.ptr b 0) aX:=by
 obtain⟨v,aE,rfl,af⟩:=lv (w:=w) a4
 have ah:=(jN μ v).cells af
 obtain⟨aa,rfl,ad,ax,aO⟩:=yW (P:=P) ak ah ai
 refine⟨_,_,.pointer (some ⟨w.heap.size,0,none⟩),?_,⟨_,ad,by simp⟩,ax,aO⟩
 simp[Instr.alloc,aE,newVar,aa]
theorem MB(ak:br μ H w){e:TypeId}{x:I}{v:Value}(aE:bc μ x v){b:Nat}{aX:J}(ai:newRow H e x.cells=some (b,aX)):
  e7 P μ H w (Instr.box e v) (.ptr b 0) aX:=by
 have af:x≠ .bad:=by intro h;rw[h] at ai;simp[newRow,I.cells,I.bY] at ai
 obtain⟨aa,rfl,ad,ax,aO⟩:=yW (P:=P) ak (aE.cells af) ai
 refine⟨_,_,.pointer (some ⟨w.heap.size,0,none⟩),?_,⟨_,ad,by simp⟩,ax,aO⟩
 simp[Instr.box,newVar,aa]
theorem MC(ak:br μ H w){t:TypeId}{b off:Nat}{v:Value}(aE:bc μ (.ptr b off) v):
  (∀n cs,l4 P t=some true->dt P t=some n->loadCells H b off n=some cs->e7 P μ H w (Instr.loadAt t v) (.agg cs) H)/\
  (∀x,l4 P t=some false->aq H b off=some x->e7 P μ H w (Instr.loadAt t v) x H):=by
 obtain⟨i,ae,rfl⟩:=aE
 constructor
 · intro n cs a2 aK au
   obtain⟨us,aa,ad⟩:=qy (P:=P) ak ae au
   exact .same ak (v':=.agg ⟨us⟩) (by simp[Instr.loadAt,Instr.sureAddr,loadVar,tV a2,run_sizeOf aK,aa]) ⟨us,rfl,ad⟩
 · intro x a2 au
   obtain⟨u,aa,ad⟩:=BH (P:=P) ak ae au
   exact .same ak (v':=u) (by simp only[Instr.loadAt,Instr.sureAddr,loadVar,Sem.run_bind,Sem.run_pure,Result.andThen_ok,tV a2,Bool.false_eq_true,if_false,aa]) ad
theorem MD(ak:br μ H w){t:TypeId}{b off n:Nat}{v u:Value}{x:I}(aE:bc μ (.ptr b off) v)(ab:bc μ x u)(af:x≠ .bad)(aK:dt P t=some n)(au:x.cells.length=n)
  {aX:J}(hs:storeCells H b off x.cells=some aX):
  ∃w',(Instr.storeAt t v u).run P w=.ok () w'/\br μ aX w'/\cb μ H w μ aX w':=by
 obtain⟨i,ae,rfl⟩:=aE
 have ah:=ab.cells af
 obtain⟨w',aa,ad,ax⟩:=vU (P:=P) ak ae ah hs
 refine⟨w',?_,ad,ax⟩
 have bL:u.cells.size=n:=by have:=ah.length;rw[au] at this;simpa using this.symm
 simp[Instr.storeAt,Instr.sureAddr,storeVar,run_sizeOf aK,bL,aa]
theorem F7(off:Nat):∀(l:List Value) (s:Nat) (cs:Array Value),off+s+l.length<=cs.size->
  ((l.zipIdx s).foldl (λcs (x:Value×Nat)=>cs.setIfInBounds (off+x.2) x.1) cs).size=cs.size/\
  ∀j:Nat,((l.zipIdx s).foldl (λcs (x:Value×Nat)=>cs.setIfInBounds (off+x.2) x.1) cs)[j]? =if off+s<=j/\j<off+s+l.length then l[j-(off+s)]? else cs[j]?
 |[],s,cs,_=>by
  refine⟨rfl,λj=>by rw[if_neg (by simp)];rfl⟩
 |a::l,s,cs,h=>by
  simp only[List.length_cons] at h
  obtain⟨aa,ad⟩:=F7 off l (s+1) (cs.setIfInBounds (off+s) a) (by simp;omega)
  simp only[List.zipIdx_cons,List.foldl_cons]
  refine⟨by rw[aa];simp,λj=>?_⟩
  rw[ad j]
  by_cases e:j=off+s
  · subst e
    rw[if_neg (by omega),if_pos (by simp),Array.getElem?_setIfInBounds]
    simp;omega
  · by_cases aC:off+(s+1)<=j/\j<off+(s+1)+l.length
    · rw[if_pos aC,if_pos (by simp only[List.length_cons];omega)]
      have:j-(off+s)=(j-(off+(s+1)))+1:=by omega
      rw[this];simp
    · rw[if_neg aC,if_neg (by simp only[List.length_cons];omega),Array.getElem?_setIfInBounds,if_neg (λcY=>e cY.symm)]
theorem vV(place:Nat->Option (Nat×Nat)){rV:Type}(g:rV->I)(cp:rV->Value)(aj:∀x,bc μ (g x) (cp x)):∀(ps:List (Nat×rV)) (cs r:List I) (c:Array Value),cd μ cs c.toList->
  jg place cs (ps.map λp=>(p.1,g p.2))=some r->∃c':List Value,Instr.fill place c (ps.map λp=>(p.1,cp p.2))=some ⟨c'⟩/\cd μ r c'
 |[],cs,r,c,ah,h=>by
  simp[jg] at h;subst h
  exact⟨c.toList,by simp[Instr.fill],ah⟩
 |(k,x)::ps,cs,r,c,ah,h=>by
  simp only[List.map_cons] at h⊢
  have aE:=aj x
  generalize g x=v at h aE
  generalize cp x=u at aE⊢
  have af:v≠ .bad:=by intro e;subst e;simp[jg] at h
  have vW:∃off size b6,place k=some (off,size)/\v.cells.length=size/\off+size<=cs.length/\ff off v.cells cs=some b6/\jg place b6 (ps.map λp=>(p.1,g p.2))=some r:=by
   cases v<;>first
    |exact absurd rfl af
    |(simp only[jg] at h
      split at h
      · cases h
      · rename_i off size jO
        split at h
        · rename_i bL
          simp only[Bool.and_eq_true,Nat.ble_eq] at bL
          split at h
          · rename_i b6 vX
            exact⟨off,size,b6,jO,Nat.eq_of_beq_eq_true bL.1,bL.2,vX,h⟩
          · cases h
        · cases h)
  obtain⟨off,size,b6,jO,bL,hbound,vX,qB⟩:=vW
  obtain⟨du,dp,l8,oA⟩:=yT _ _ _ _ vX
  have kS:=aE.cells af
  have au:=kS.length
  have qC:=ah.length
  have ax:c.toList.length=c.size:=by simp
  have ME:u.cells.size=size:=by rw[<-bL,au];simp
  obtain⟨f1,f2⟩:=F7 off u.cells.toList 0 c (by simp;omega)
  have MF:(u.cells.zipIdx.foldl (λcs (x:Value×Nat)=>cs.setIfInBounds (off+x.2) x.1) c)=((u.cells.toList.zipIdx 0).foldl (λcs (x:Value×Nat)=>cs.setIfInBounds (off+x.2) x.1) c):=by
   rw[<-Array.foldl_toList,Array.toList_zipIdx]
  have key:cd μ b6 (u.cells.zipIdx.foldl (λcs (x:Value×Nat)=>cs.setIfInBounds (off+x.2) x.1) c).toList:=by
   rw[MF]
   refine cd.vQ (by rw[du,qC];simpa using f1.symm) λj a a2=>?_
   rw[oA j] at a2
   rw[Array.getElem?_toList,f2 j]
   have MG:u.cells.toList.length=v.cells.length:=au.symm
   by_cases ai:off<=j/\j<off+v.cells.length
   · rw[if_pos ai] at a2;rw[if_pos (by omega)]
     exact kS.get (by simpa using a2)
   · rw[if_neg ai] at a2;rw[if_neg (by omega)]
     simpa using ah.get a2
  obtain⟨c',ao,ar⟩:=vV place g cp aj ps b6 r _ key qB
  refine⟨c',?_,ar⟩
  simp only[Instr.fill,jO,ME]
  rw[if_neg (by simp;omega)]
  exact ao
theorem MH{t:TypeId}{n:Nat}(h:dt P t=some n):P.cellsOf t=n:=by
 unfold dt at h
 split at h
 · rename_i i ae;cases h;simp[Program.cellsOf,ae]
 · cases h
theorem run_places(w:World):∀l:List Field,(l.all λf=>(dt P f.type).isSome)=true->
  (l.mapM (λf=>do pure (f.offset,<-_root_.Go.sizeOf f.type):Field->Sem (Nat×Nat))).run P w=.ok (l.map λf=>(f.offset,P.cellsOf f.type)) w
 |[],_=>rfl
 |f::l,h=>by
  simp only[List.all_cons,Bool.and_eq_true] at h
  obtain⟨n,aK⟩:=Option.isSome_iff_exists.1 h.1
  simp only[List.mapM_cons,Sem.run_bind,run_sizeOf aK,Result.andThen_ok,Sem.run_pure,run_places w l h.2,List.map_cons,MH aK]
theorem MI(ak:br μ H w)(g:Operand->I)(cp:Operand->Value)(aj:∀x,bc μ (g x) (cp x)){t:TypeId}{z:I}(a4:ew P t=some z){cu:Array Field}(hu:P.underlying t=some (.struct cu))
  (fQ:(cu.toList.all λf=>(dt P f.type).isSome)=true)(parts:Array (Nat×Operand)){cs:List I}
  (hf:jg (λi=>(cu[i]?).map λf=>(f.offset,P.cellsOf f.type)) z.cells (parts.toList.map λp=>(p.1,g p.2))=some cs):
  e7 P μ H w (Instr.build t (parts.map λ(i,x)=>(i,cp x))) (.agg cs) H:=by
 obtain⟨v,aE,rfl,af⟩:=lv (w:=w) a4
 have ah:=(jN μ v).cells af
 obtain⟨c',aa,ad⟩:=vV _ g cp aj parts.toList _ cs v.cells ah hf
 have bl:=run_places (P:=P) w cu.toList fQ
 refine .same ak (v':=.agg ⟨c'⟩) ?_ ⟨c',rfl,ad⟩
 have hm:(cu.mapM (λf=>do pure (f.offset,<-_root_.Go.sizeOf f.type):Field->Sem (Nat×Nat))).run P w=.ok (cu.map λf=>(f.offset,P.cellsOf f.type)) w:=by
  obtain⟨l⟩:=cu
  have e:(l.toArray.mapM (λf=>do pure (f.offset,<-_root_.Go.sizeOf f.type):Field->Sem (Nat×Nat)))=List.toArray<$>l.mapM (λf=>do pure (f.offset,<-_root_.Go.sizeOf f.type)):=List.mapM_toArray
  refine(congrArg (λs:Sem (Array (Nat×Nat))=>s.run P w) e).trans ?_
  simp only[Sem.run_map]
  rw[show(Sem.run P (List.mapM (λf=>do pure (f.offset,<-_root_.Go.sizeOf f.type):Field->Sem (Nat×Nat)) l) w)=_ from bl];simp
 have MJ:(λi:Nat=>(cu.map λf=>(f.offset,P.cellsOf f.type))[i]?)=λi=>(cu[i]?).map λf=>(f.offset,P.cellsOf f.type):=by
  funext i;simp
 simp only[Instr.build,Sem.run_bind,aE,Result.andThen_ok,bW hu,hm,MJ,Array.toList_map,aa]
 rfl
theorem MK(ak:br μ H w)(g:Operand->I)(cp:Operand->Value)(aj:∀x,bc μ (g x) (cp x)){t e:TypeId}{n sz:Nat}{z:I}(a4:ew P t=some z)(hu:P.underlying t=some (.array n e))
  (hs:dt P e=some sz)(parts:Array (Nat×Operand)){cs:List I}
  (hf:jg (λi=>some (i*sz,sz)) z.cells (parts.toList.map λp=>(p.1,g p.2))=some cs):
  e7 P μ H w (Instr.build t (parts.map λ(i,x)=>(i,cp x))) (.agg cs) H:=by
 obtain⟨v,aE,rfl,af⟩:=lv (w:=w) a4
 have ah:=(jN μ v).cells af
 obtain⟨c',aa,ad⟩:=vV _ g cp aj parts.toList _ cs v.cells ah hf
 refine .same ak (v':=.agg ⟨c'⟩) ?_ ⟨c',rfl,ad⟩
 simp only[Instr.build,Sem.run_bind,aE,Result.andThen_ok,bW hu,run_sizeOf hs,Array.toList_map,aa]
 rfl
theorem F8{α:Type}(n:Nat)(l:List α):(eT n l).length=n*l.length:=by
 induction n with
 |zero=>simp[eT]
 |succ n ba=>simp[eT,ba,Nat.succ_mul];omega
theorem F9{α:Type}:∀(n:Nat) (l:List α) (j:Nat),j<n*l.length->(eT n l)[j]? =l[j %l.length]?
 |0,l,j,h=>by simp at h
 |n+1,l,j,h=>by
  simp only[eT]
  by_cases e:j<l.length
  · rw[List.getElem?_append_left e,Nat.mod_eq_of_lt e]
  · rw[List.getElem?_append_right (by omega),F9 n l (j-l.length) (by rw[Nat.succ_mul] at h;omega)]
    have:(j-l.length) %l.length=j %l.length:=by
     have ak:j=(j-l.length)+l.length:=by omega
     conv=>rhs;rw[ak,Nat.add_mod_right]
    rw[this]
theorem vY{mX:List I}{zero:Array Value}(a4:cd μ mX zero.toList){sz:Nat}(hs:mX.length=sz)(n:Nat):
  cd μ (eT n mX) ((Array.range (n*sz)).map (λi=>zero[i %zero.size]!)).toList:=by
 have au:=a4.length
 have ax:zero.toList.length=zero.size:=by simp
 refine cd.vQ (by rw[F8,hs];simp) λj a a2=>?_
 have aL:j<n*mX.length:=by
  rcases Nat.lt_or_ge j (n*mX.length) with h|h
  · exact h
  · rw[List.getElem?_eq_none (by rw[F8];exact h)] at a2;cases a2
 rw[F9 n mX j aL] at a2
 obtain⟨u,hu,ai⟩:=a4.get a2
 refine⟨u,?_,ai⟩
 have yV:0<mX.length:=by
  rcases Nat.eq_zero_or_pos mX.length with h|h
  · rw[h] at aL;simp at aL
  · exact h
 have cy:j %zero.size<zero.size:=Nat.mod_lt _ (by omega)
 have aA:mX.length=zero.size:=by omega
 rw[aA] at hu
 rw[Array.getElem?_toList] at hu
 rw[Array.getElem?_toList,Array.getElem?_map,Array.getElem?_range]
 rw[if_pos (by rw[<-hs];exact aL)]
 simp only[Option.map_some]
 rw[Array.getElem?_eq_getElem cy] at hu
 simp only[Option.some.injEq] at hu
 rw[getElem!_pos zero _ cy,hu]
theorem ML(ak:br μ H w)(g:Operand->I)(cp:Operand->Value)(aj:∀x,bc μ (g x) (cp x)){t e:TypeId}{len sz:Nat}{z:I}(hu:P.underlying t=some (.slice e))(hs:dt P e=some sz)
  (a4:ew P e=some z)(hle:len*sz<=16777216)(mY:z.cells.length=sz)(parts:Array (Nat×Operand)){cs:List I}
  (hf:jg (λi=>some (i*sz,sz)) (if len*sz=0 then[] else eT len z.cells) (parts.toList.map λp=>(p.1,g p.2))=some cs){b:Nat}{aX:J}(ai:newRow H e cs=some (b,aX)):
  e7 P μ H w (Instr.buildSlice t len (parts.map λ(i,x)=>(i,cp x))) (.slice b 0 len (.exact len)) aX:=by
 obtain⟨v,aE,rfl,af⟩:=lv (w:=w) a4
 have ah:=(jN μ v).cells af
 have nE:¬(len*sz>2^24):=by omega
 have key:∀zero:Array Value,cd μ (if len*sz=0 then[] else eT len (nw v).cells) ((Array.range (len*sz)).map (λi=>zero[i %zero.size]!)).toList->
   (∀r:Result Value,r=(match Instr.fill (λi=>some (i*sz,sz)) ((Array.range (len*sz)).map (λi=>zero[i %zero.size]!)) (parts.toList.map λp=>(p.1,cp p.2)) with
    |some cells=>do pure (.slice (some (<-_root_.Go.newRow e cells)) len len)
    |none=>stuck "buildSlice: a part of the wrong size" :Sem Value).run P w->(Instr.buildSlice t len (parts.map λ(i,x)=>(i,cp x))).run P w=r)->
   e7 P μ H w (Instr.buildSlice t len (parts.map λ(i,x)=>(i,cp x))) (.slice b 0 len (.exact len)) aX:=by
  intro zero l9 eX
  obtain⟨c',aa,ad⟩:=vV _ g cp aj parts.toList _ cs _ l9 hf
  obtain⟨aQ,rfl,bI,cr,cF⟩:=yW (P:=P) ak ad ai
  refine⟨_,_,.slice (some ⟨w.heap.size,0,none⟩) len len,?_,⟨_,bI,by simp[BA]⟩,cr,cF⟩
  refine eX _ ?_
  rw[aa]
  simp[aQ]
 by_cases h0:len*sz=0
 · refine key #[] (by rw[if_pos h0,h0];simp[cd]) λr ai=>?_
   rw[ai]
   simp only[Instr.buildSlice,Sem.run_bind,bW hu,Result.andThen_ok,run_sizeOf hs,if_neg nE,if_pos h0,Sem.run_pure,Array.toList_map]
   generalize Instr.fill _ _ _=F
   cases F<;>rfl
 · refine key v.cells (by rw[if_neg h0];exact vY ah mY len) λr ai=>?_
   rw[ai]
   simp only[Instr.buildSlice,Sem.run_bind,bW hu,Result.andThen_ok,run_sizeOf hs,if_neg nE,if_neg h0,Sem.run_pure,Array.toList_map,aE]
   generalize Instr.fill _ _ _=F
   cases F<;>rfl
end
end aD
namespace aD
open Go
theorem rZ(n:Nat)(h:n<9223372036854775808):IntKind.wrap .i64 (n:Int)=(n:Int):=by
 have e:((n:Int) %18446744073709551616)=n:=by omega
 have aC:(2:Int)^64=18446744073709551616:=by rfl
 have bN:(2:Int)^63=9223372036854775808:=by rfl
 simp only[IntKind.wrap,IntKind.bits,IntKind.signed,aC,bN,e,Bool.true_and,decide_eq_true_eq,Nat.add_one_sub_one]
 rw[if_neg (by show¬((2:Int)^63<=n);rw[bN];omega)]
section
variable {P:Program} {μ:bn} {H:J} {w:World}
theorem MM(ak:br μ H w){t e:TypeId}{l c:Nat}{i:TypeInfo}{z:I}{kl kc:IntKind}(hu:P.underlying t=some (.slice e))(ae:P.info? e=some i)(a4:ew P e=some z)(qC:l<=c)
  (tW:c*(i.bytes+1)<=1099511627776)(mY:z.cells.length=i.size){b:Nat}{aX:J}(ai:newRow H e (if c*i.size=0 then[] else eT c z.cells)=some (b,aX)):
  e7 P μ H w (Instr.makeSlice t (.int kl l) (.int kc c)) (.slice b 0 l (.exact c)) aX:=by
 obtain⟨v,aE,rfl,af⟩:=lv (w:=w) a4
 have ah:=(jN μ v).cells af
 have BI:c<=1099511627776:=Nat.le_trans (Nat.le_mul_of_pos_right c (by omega)) tW
 have oB:i.bytes*c<=1099511627776:=by
  have:c*i.bytes<=c*(i.bytes+1):=Nat.mul_le_mul_left c (by omega)
  rw[Nat.mul_comm];omega
 have vZ:∀n:Nat,n<=1099511627776->IntKind.wrap .i64 (n:Int)=(n:Int):=λn aK=>rZ n (by omega)
 have ie:=vZ l (by omega)
 have v3:=vZ c BI
 have r0:¬((c:Int)<0||(i.bytes:Int)*(c:Int)>2^48||(l:Int)<0||(l:Int)>(c:Int))=true:=by
  have aa:((i.bytes:Int)*(c:Int))<=1099511627776:=by
   have h0:((i.bytes*c:Nat):Int)<=1099511627776:=by omega
   rw[Int.natCast_mul] at h0;exact h0
  have ad:(2:Int)^48=281474976710656:=by rfl
  generalize (i.bytes:Int)*(c:Int)=q at aa⊢
  rw[ad]
  simp only[Bool.or_eq_true,decide_eq_true_eq]
  omega
 have key:∀zero:Array Value,cd μ (if c*i.size=0 then[] else eT c (nw v).cells) ((Array.range (c*i.size)).map (λj=>zero[j %zero.size]!)).toList->
   (Instr.makeSlice t (.int kl l) (.int kc c)).run P w=(do let a<-_root_.Go.newRow e ((Array.range (c*i.size)).map (λj=>zero[j %zero.size]!));pure (.slice (some a) l c):Sem Value).run P w->
   e7 P μ H w (Instr.makeSlice t (.int kl l) (.int kc c)) (.slice b 0 l (.exact c)) aX:=by
  intro zero l9 eX
  obtain⟨aQ,rfl,bI,cr,cF⟩:=yW (P:=P) ak l9 ai
  refine⟨_,_,.slice (some ⟨w.heap.size,0,none⟩) l c,?_,⟨_,bI,by simp[BA]⟩,cr,cF⟩
  rw[eX]
  simp only[Sem.run_bind,Sem.run_pure]
  have:(⟨((Array.range (c*i.size)).map (λj=>zero[j %zero.size]!)).toList⟩:Array Value)=((Array.range (c*i.size)).map (λj=>zero[j %zero.size]!)):=rfl
  rw[this] at aQ
  rw[aQ];rfl
 have bL:(_root_.Go.sizeOf e).run P w=.ok i.size w:=by simp[_root_.Go.sizeOf,run_typeInfo ae]
 by_cases h0:c*i.size=0
 · refine key #[] (by rw[if_pos h0,h0];simp[cd]) ?_
   simp only[Instr.makeSlice,Sem.run_bind,bW hu,Result.andThen_ok,asInt,asIntOf,Sem.run_pure,run_typeInfo ae,ie,v3]
   rw[if_neg r0]
   simp[bL,h0]
 · refine key v.cells (by rw[if_neg h0];exact vY ah mY c) ?_
   simp only[Instr.makeSlice,Sem.run_bind,bW hu,Result.andThen_ok,asInt,asIntOf,Sem.run_pure,run_typeInfo ae,ie,v3]
   rw[if_neg r0]
   simp[bL,h0,aE]
theorem MN{x:I}{v:Value}(aE:bc μ x v)(ab:(∃b o,x=.ptr b o)\/(∃b o n c,x=.slice b o n c)\/(∃f a b,x=.fn f a b)\/∃t y,x=.iface t y):
  ∀(o:Oper) (op:Operand) (cp:Operand->Value),cp op=v->o.op=.nilCheck op->(execOp cp o).run P w=.ok (.value v) w:=by
 intro o op cp MO bd
 simp only[execOp,bd,MO]
 rcases ab with⟨b,o',rfl⟩|⟨b,o',n,c,rfl⟩|⟨f,a,b,rfl⟩|⟨t,y,rfl⟩
 · obtain⟨i,_,rfl⟩:=aE;rfl
 · obtain⟨i,_,ah⟩:=aE
   cases c with
   |exact c=>cases ah;rfl
   |aY gn=>obtain⟨c,rfl,_⟩:=ah;rfl
   |dead=>obtain⟨_,a,c,rfl⟩:=ah;rfl
 · obtain⟨cu,cs,rfl,_,_⟩:=aE;rfl
 · obtain⟨yX,rfl,_⟩:=aE;rfl
theorem MP(op:BinOp)(t:TypeId)(k:IntKind)(x y:Int)(fU:op≠ .shl/\op≠ .shr):binOp op t (.int k x) (.int k y)=match op with
  |.add|.sub|.mul=>Op.intArith op k x y
  |.quo|.rem=>Op.intDiv op k x y
  |.and|.or|.xor|.andNot=>Op.intBits op k x y
  |_=>Op.intCmp op x y:=by
 cases op<;>first
  |(exact absurd rfl fU.1)
  |(exact absurd rfl fU.2)
  |simp[binOp]
theorem MQ{op:BinOp}{k:IntKind}{x y:Int}{v:I}(h:arith op k x y=some v)(fU:op≠ .shl/\op≠ .shr)(t:TypeId):
  ∃u,(binOp op t (.int k x) (.int k y)).run P w=.ok u w/\bc μ v u:=by
 rw[MP op t k x y fU]
 cases op<;>simp only[arith] at h
 case shl=>cases h
 case shr=>cases h
 case quo=>
  split at h
  · cases h
  · rename_i bg;cases h;exact⟨_,by simp only[Op.intDiv,if_neg bg];rfl,rfl⟩
 case rem=>
  split at h
  · cases h
  · rename_i bg;cases h;exact⟨_,by simp only[Op.intDiv,if_neg bg];rfl,rfl⟩
 all_goals (cases h;exact⟨_,rfl,rfl⟩)
theorem F_{op:BinOp}{k dA:IntKind}{x y:Int}{v:I}(h:mP op k x y=some v)(t:TypeId):
  ∃u,(binOp op t (.int k x) (.int dA y)).run P w=.ok u w/\bc μ v u:=by
 unfold mP at h
 split at h
 · cases h
 · rename_i bg
   cases op<;>simp only[] at h<;>first
    |(cases h;done)
    |(cases h;exact⟨_,by simp[binOp,Op.shift,bg],rfl⟩)
theorem Ga(b:ByteArray):∀(n i:Nat) (r:List UInt8),b.size-i=n->ByteArray.toList.loop b i r=r.reverse++b.data.toList.drop i
 |0,i,r,h=>by
  rw[ByteArray.toList.loop]
  have hs:b.data.toList.length=b.size:=Array.length_toList
  rw[if_neg (by omega),List.drop_eq_nil_of_le (by omega)];simp
 |n+1,i,r,h=>by
  rw[ByteArray.toList.loop]
  have hs:b.data.toList.length=b.size:=Array.length_toList
  rw[if_pos (by omega),Ga b n (i+1) _ (by omega)]
  rw[List.drop_eq_getElem_cons (i:=i) (by omega)]
  have:b.get! i=b.data.toList[i]'(by omega):=by
   have ad:i<b.data.size:=by have:=Array.length_toList (xs:=b.data);omega
   show b.data[i]! =_
   rw[getElem!_pos b.data i ad];simp
  simp[this]
theorem qD(s:ByteArray):s.toList=s.data.toList:=by
 unfold ByteArray.toList
 rw[Ga s _ 0 [] rfl];simp
theorem oC:∀a b:List UInt8,cg a b=(a==b)
 |[],[]=>rfl
 |[],_::_=>rfl
 |_::_,[]=>rfl
 |a::x,b::y=>by
  have ba:=oC x y
  simp only[cg,List.cons_beq_cons]
  cases e:Nat.beq a.toNat b.toNat with
  |true=>
   have:a=b:=UInt8.toNat_inj.1 (Nat.eq_of_beq_eq_true e)
   subst this;simp[ba]
  |false=>
   have:(a==b)=false:=by
    rw[beq_eq_false_iff_ne];intro h;subst h;simp at e
   simp[this]
theorem BJ:∀a b:List UInt8,dN a b=Op.bytesLess a b
 |[],[]=>rfl
 |[],_::_=>rfl
 |_::_,[]=>rfl
 |a::x,b::y=>by
  have ba:=BJ x y
  simp only[dN,Op.bytesLess]
  cases e:Nat.beq a.toNat b.toNat with
  |true=>
   have:a=b:=UInt8.toNat_inj.1 (Nat.eq_of_beq_eq_true e)
   subst this;simp[ba]
  |false=>
   have aa:(a==b)=false:=by
    rw[beq_eq_false_iff_ne];intro h;subst h;simp at e
   have ad:decide (a<b)=Nat.blt a.toNat b.toNat:=by
    rw[Bool.eq_iff_iff];simp[UInt8.lt_iff_toNat_lt]
   simp[aa,ad]
theorem Gb:∀a b:List UInt8,(Op.bytesLess a b||(a==b))=!Op.bytesLess b a
 |[],[]=>rfl
 |[],_::_=>rfl
 |_::_,[]=>rfl
 |a::x,b::y=>by
  have ba:=Gb x y
  simp only[Op.bytesLess,List.cons_beq_cons]
  by_cases h:a=b
  · subst h
    have:¬(a<a):=UInt8.lt_irrefl a
    simpa[this] using ba
  · have dC:(a==b)=false:=beq_eq_false_iff_ne.2 h
    have MR:(b==a)=false:=beq_eq_false_iff_ne.2 (λe=>h e.symm)
    simp only[dC,MR,Bool.false_and,Bool.or_false]
    rw[Bool.eq_iff_iff]
    simp only[decide_eq_true_eq,Bool.not_eq_true',decide_eq_false_iff_not,UInt8.lt_iff_toNat_lt]
    have:a.toNat≠b.toNat:=λe=>h (UInt8.toNat_inj.1 e)
    omega
theorem MS{op:BinOp}{a b:ByteArray}{v:I}(h:eQ op a.data.toList b.data.toList=some v)(t:TypeId):∃u,(binOp op t (.string a) (.string b)).run P w=.ok u w/\bc μ v u:=by
 have a2:=qD a
 have af:=qD b
 have aa:=oC a.data.toList b.data.toList
 have ad:=BJ a.data.toList b.data.toList
 have ax:=BJ b.data.toList a.data.toList
 have a6:=Gb a.data.toList b.data.toList
 have v5:a.data.toList.length=a.size:=Array.length_toList
 have MT:b.data.toList.length=b.size:=Array.length_toList
 cases op<;>simp only[eQ] at h
 case add=>
  split at h
  · cases h
  · rename_i au
    cases h
    refine⟨.string (a++b),?_,⟨a++b,rfl,by simp[ByteArray.data_append]⟩⟩
    rw[v5,MT] at au
    simp only[binOp,Op.stringOp]
    rw[if_neg au];rfl
 case eql=>cases h;exact⟨_,rfl,congrArg Value.bool (by rw[a2,af,aa])⟩
 case neq=>cases h;exact⟨_,rfl,congrArg Value.bool (by rw[a2,af,aa])⟩
 case lss=>cases h;exact⟨_,rfl,congrArg Value.bool (by rw[a2,af,ad])⟩
 case leq=>cases h;exact⟨_,rfl,congrArg Value.bool (by rw[a2,af,ax];exact a6)⟩
 case gtr=>cases h;exact⟨_,rfl,congrArg Value.bool (by rw[a2,af,ax,a6,Bool.not_not])⟩
 case geq=>cases h;exact⟨_,rfl,congrArg Value.bool (by rw[a2,af,ad])⟩
 all_goals cases h
def mZ(μ:bn):Option I->Option Value->Prop
 |none,none=>True
 |some a,some v=>bc μ a v
 |_,_=>False
theorem mZ.map(g:Operand->I)(cp:Operand->Value)(aj:∀x,bc μ (g x) (cp x))(o:Option Operand):mZ μ (o.map g) (o.map cp):=by
 cases o with
 |none=>trivial
 |some x=>exact aj x
theorem Gc{a:I}{n:Nat}(h:fB a=some n){v:Value}(aE:bc μ a v):∃k,v=.int k (n:Int):=by
 unfold fB at h
 split at h
 · rename_i k m;cases h;exact⟨k,aE⟩
 · cases h
theorem BK{n y:Nat}{k:IntKind}(h:n<=y)(c:BoundsCode):(Instr.sliceBound (.int k (n:Int)) y c).run P w=.ok n w:=by
 simp only[Instr.sliceBound,asIntOf,Sem.run_bind,Sem.run_pure,Result.andThen_ok]
 rw[if_pos ⟨by omega,by omega⟩]
 simp
theorem Gd{d n:Nat}{o:Option I}{o':Option Value}(h:jH d o=some n)(ai:mZ μ o o'):(o'=none/\n=d/\o=none)\/∃k a,o=some a/\o'=some (.int k (n:Int)):=by
 cases o with
 |none=>cases o' with
  |none=>simp[jH] at h;exact .inl ⟨rfl,h.symm,rfl⟩
  |some _=>exact ai.elim
 |some a=>cases o' with
  |none=>exact ai.elim
  |some v=>obtain⟨k,e⟩:=Gc (μ:=μ) h ai;exact .inr ⟨k,a,rfl,by rw[e]⟩
theorem nF{len cap l h m:Nat}{bf ae mx:Option I}{lx eH mx':Option Value}(l_:mZ μ bf lx)(jP:mZ μ ae eH)(h1:mZ μ mx mx')
  (af:bounds len cap bf ae mx=some (l,h,m))(b:Bool):(Instr.sliceBounds b len cap lx eH mx').run P w=.ok (l,h,m) w/\l<=h/\h<=m/\m<=cap/\(mx=none->m=cap):=by
 unfold bounds at af
 cases em:jH cap mx with
 |none=>rw[em] at af;cases af
 |some cV=>
  rw[em] at af
  simp only at af
  cases hm:Nat.ble cV cap with
  |false=>rw[hm] at af;cases af
  |true=>
   rw[hm] at af
   simp only at af
   have BL:=Nat.le_of_ble_eq_true hm
   split at af
   · cases af
   · rename_i ak yY
     cases BM:Nat.ble ak cV with
     |false=>rw[BM] at af;cases af
     |true=>
      rw[BM] at af
      simp only at af
      have Ge:=Nat.le_of_ble_eq_true BM
      cases el:jH 0 bf with
      |none=>rw[el] at af;cases af
      |some bp=>
       rw[el] at af
       simp only at af
       cases au:Nat.ble bp ak with
       |false=>rw[au] at af;cases af
       |true=>
        rw[au] at af
        simp only[Option.some.injEq,Prod.mk.injEq] at af
        obtain⟨rfl,rfl,rfl⟩:=af
        have yZ:=Nat.le_of_ble_eq_true au
        have MU:(eH=none/\mx'=none/\ak=len)\/∃k,eH=some (.int k (ak:Int)):=by
         cases ae with
         |none=>cases eH with
          |some _=>exact jP.elim
          |none=>cases mx with
           |some _=>simp at yY
           |none=>cases mx' with
            |some _=>exact h1.elim
            |none=>simp at yY;exact .inl ⟨rfl,rfl,yY.symm⟩
         |some a=>cases eH with
          |none=>exact jP.elim
          |some v=>
           have g3:fB a=some ak:=by cases mx<;>simpa using yY
           obtain⟨k,e⟩:=Gc (μ:=μ) g3 jP
           exact .inr ⟨k,by rw[e]⟩
        refine⟨?_,yZ,Ge,BL,λe=>by rw[e] at em;simp[jH] at em;exact em.symm⟩
        rcases Gd em h1 with⟨aA,aC,_⟩|⟨b4,_,_,aA⟩<;>rcases MU with⟨bN,eW,iO⟩|⟨b0,bN⟩<;>rcases Gd el l_ with⟨fg,eI,_⟩|⟨e2,_,_,fg⟩<;>
         first
         |(exfalso;simp[aA] at eW;done)
         |(subst_vars;simp[Instr.sliceBounds,BK BL,BK Ge,BK yZ])
end
end aD
namespace aD
open Go
section
variable {P:Program} {μ:bn} {H:J} {w:World}
theorem MV(t:ByteArray)(l h:Nat)(ak:h<=t.size):(t.extract l h).data.toList=List.take (h-l) (hW l t.data.toList):=by
 rw[mW]
 simp only[ByteArray.data_extract,Array.toList_extract,List.extract_eq_take_drop]
theorem v7{m n:Nat}(h:m<=n):Nat.ble m n=true:=Nat.ble_eq_true_of_le h
theorem BN{len k c:Nat}{bf ae mx:Option I}{l h m:Nat}(af:bounds len k bf ae mx=some (l,h,m))(aw:k<=c):bounds len c bf ae mx=some (l,h,if mx.isNone then c else m):=by
 have fin:∀(cV h2:Nat) (E:Option Nat),cV<=h2->
   (match E with
   |none=>none
   |some ak=>match Nat.ble ak cV with
    |false=>none
    |true=>match jH 0 bf with
     |none=>none
     |some l=>match Nat.ble l ak with
      |false=>none
      |true=>some (l,ak,cV))=some (l,h,m)->
   (match E with
   |none=>none
   |some ak=>match Nat.ble ak h2 with
    |false=>none
    |true=>match jH 0 bf with
     |none=>none
     |some l=>match Nat.ble l ak with
      |false=>none
      |true=>some (l,ak,h2))=some (l,h,h2):=by
  intro cV h2 E hm fF
  cases E with
  |none=>cases fF
  |some ak=>
   simp only at fF⊢
   cases aa:Nat.ble ak cV with
   |false=>rw[aa] at fF;cases fF
   |true=>
    rw[aa] at fF
    rw[v7 (Nat.le_trans (Nat.le_of_ble_eq_true aa) hm)]
    simp only at fF⊢
    cases au:jH 0 bf with
    |none=>rw[au] at fF;cases fF
    |some bp=>
     rw[au] at fF
     simp only at fF⊢
     cases aO:Nat.ble bp ak with
     |false=>rw[aO] at fF;cases fF
     |true=>rw[aO] at fF;simp only[Option.some.injEq,Prod.mk.injEq] at fF⊢;exact⟨fF.1,fF.2.1,trivial⟩
 unfold bounds at af⊢
 cases mx with
 |none=>
  have aA:jH k none=some k:=rfl
  have aC:jH c none=some c:=rfl
  rw[aA] at af;rw[aC]
  simp only at af⊢
  rw[v7 (Nat.le_refl k)] at af;rw[v7 (Nat.le_refl c)]
  simp only[Option.isNone_none,if_true] at af⊢
  cases ae with
  |none=>exact fin k c (some len) aw af
  |some a=>exact fin k c (fB a) aw af
 |some r1=>
  have aA:jH k (some r1)=fB r1:=rfl
  have aC:jH c (some r1)=fB r1:=rfl
  rw[aA] at af;rw[aC]
  cases em:fB r1 with
  |none=>rw[em] at af;cases af
  |some cV=>
   rw[em] at af
   simp only at af⊢
   cases aa:Nat.ble cV k with
   |false=>rw[aa] at af;cases af
   |true=>
    rw[aa] at af
    rw[v7 (Nat.le_trans (Nat.le_of_ble_eq_true aa) aw)]
    simp only[Option.isNone_some,Bool.false_eq_true,if_false] at af⊢
    have MW:cV=m:=by
     cases ae<;>simp only at af
     · cases af
     · split at af<;>try cases af
       split at af<;>try cases af
       split at af<;>try cases af
       split at af<;>first|cases af;rfl|cases af
    subst MW
    cases ae<;>exact af
theorem MX(ak:br μ H w){t:TypeId}{x:I}{bA:Value}(ab:bc μ x bA){bf ae mx:Option I}{lx eH mx':Option Value}(l_:mZ μ bf lx)(jP:mZ μ ae eH)(h1:mZ μ mx mx'){v:I}
  (h:fM P H t x bf ae mx=some v):e7 P μ H w (Instr.sliceAt t bA lx eH mx') v H:=by
 unfold fM at h
 split at h
 ·
  rename_i s hu
  obtain⟨bs,rfl,rfl⟩:=ab
  cases mx with
  |some _=>cases h
  |none=>
   simp only at h
   cases mx' with
   |some _=>exact h1.elim
   |none=>
    split at h
    · rename_i l af m hb
      cases h
      have bL:bs.data.toList.length=bs.size:=Array.length_toList
      rw[bL] at hb
      obtain⟨bb,a3,fv,g4,_⟩:=nF (P:=P) (w:=w) l_ jP (μ:=μ) (mx:=none) (mx':=none) trivial hb false
      refine .same ak (v':=.string (bs.extract l af)) ?_ ⟨_,rfl,MV _ _ _ (by omega)⟩
      simp[Instr.sliceAt,Instr.slice,bW hu,bb]
    · cases h
 ·
  rename_i e hu
  cases ab
  split at h
  · rename_i sz r hs hb
    cases h
    obtain⟨l,af,m⟩:=r
    obtain⟨bb,a3,fv,g4,_⟩:=nF (P:=P) (w:=w) l_ jP h1 hb true
    have:m=0/\l=0/\af=0:=by omega
    obtain⟨rfl,rfl,rfl⟩:=this
    exact .same ak (v':=.slice none 0 0) (by simp[Instr.sliceAt,Instr.slice,bW hu,bb,run_sizeOf hs]) rfl
  · cases h
 ·
  rename_i e b off len cap hu
  obtain⟨i,m0,ah⟩:=ab
  cases ah
  split at h
  · rename_i sz l af m hs hb
    cases h
    obtain⟨bb,a3,fv,g4,_⟩:=nF (P:=P) (w:=w) l_ jP h1 hb true
    refine .same ak (v':=.slice (some ⟨i.bj,i.base+(if m=l then off else off+l*sz),none⟩) (af-l) (m-l)) ?_ ⟨i,m0,rfl⟩
    by_cases e:m=l
    · simp[Instr.sliceAt,Instr.slice,bW hu,bb,run_sizeOf hs,e]
    · simp[Instr.sliceAt,Instr.slice,bW hu,bb,run_sizeOf hs,e,add_plain,Nat.add_assoc]
  · cases h
 ·
  rename_i e b off len gn hu
  obtain⟨i,m0,c,rfl,qC,bL⟩:=ab
  split at h
  · rename_i sz hs
    split at h
    · rename_i MY
      subst MY
      cases mx with
      |none=>
       cases mx' with
       |some _=>exact h1.elim
       |none=>
        simp only at h
        split at h
        · rename_i l af m hb
          have v8:bounds len c bf ae none=some (l,af,c):=BN hb qC
          obtain⟨bb,a3,fv,g4,_⟩:=nF (P:=P) (w:=w) l_ jP (μ:=μ) (mx:=none) (mx':=none) trivial v8 true
          obtain⟨_,aN,cz,jj,_⟩:=nF (P:=P) (w:=w) l_ jP (μ:=μ) (mx:=none) (mx':=none) trivial hb true
          have eX:(Instr.sliceAt t (.slice (some ⟨i.bj,i.base+off,none⟩) len c) lx eH none).run P w=.ok (.slice (some (if c=l then⟨i.bj,i.base+off,none⟩ else⟨i.bj,i.base+off+l*sz,none⟩)) (af-l) (c-l)) w:=by
           by_cases e:c=l
           · subst e;simp[Instr.sliceAt,Instr.slice,bW hu,bb,run_sizeOf hs]
           · simp[Instr.sliceAt,Instr.slice,bW hu,bb,run_sizeOf hs,e,add_plain]
          split at h
          · rename_i Gf
            subst Gf
            cases h
            refine .same ak eX ⟨i,m0,c,?_,by omega,bL⟩
            by_cases e:c=0
            · simp[e]
            · simp[e]
          · rename_i Gf
            split at h
            · rename_i cy
              cases h
              simp only[Nat.blt_eq] at cy
              refine .same ak eX ⟨i,m0,c-l,?_,by omega,?_⟩
              · rw[if_neg (by omega)];simp[Nat.add_assoc]
              · have:c*sz=l*sz+(c-l)*sz:=by rw[<-Nat.add_mul];congr 1;omega
                omega
            · rename_i cy
              cases h
              have BO:¬l<len:=by simpa[Nat.blt_eq] using cy
              have h0:af-l=0:=by omega
              rw[h0] at eX
              exact .same ak eX ⟨i,m0,rfl,_,c-l,rfl⟩
        · cases h
      |some r1=>
       simp only at h
       split at h
       · rename_i l af m hb
         cases h
         obtain⟨_,aN,cz,jj,_⟩:=nF (P:=P) (w:=w) l_ jP h1 hb true
         have v8:bounds len c bf ae (some r1)=some (l,af,m):=BN hb qC
         obtain⟨bb,a3,fv,g4,_⟩:=nF (P:=P) (w:=w) l_ jP h1 v8 true
         refine .same ak (v':=.slice (some ⟨i.bj,i.base+(if m=l then off else off+l*sz),none⟩) (af-l) (m-l)) ?_ ⟨i,m0,rfl⟩
         by_cases e:m=l
         · simp[Instr.sliceAt,Instr.slice,bW hu,bb,run_sizeOf hs,e]
         · simp[Instr.sliceAt,Instr.slice,bW hu,bb,run_sizeOf hs,e,add_plain,Nat.add_assoc]
       · cases h
    · cases h
  · cases h
 ·
  rename_i e b off len hu
  obtain⟨i,m0,rfl,a,c,rfl⟩:=ab
  split at h
  · rename_i sz r hs hb
    cases h
    obtain⟨l,af,m⟩:=r
    obtain⟨_,aN,cz,jj,jk⟩:=nF (P:=P) (w:=w) l_ jP h1 hb true
    have:m=0/\l=0/\af=0:=by omega
    obtain⟨rfl,rfl,rfl⟩:=this
    have v8:bounds 0 c bf ae mx=some (0,0,(if mx.isNone then c else 0)):=BN hb (Nat.zero_le _)
    obtain⟨bb,a3,fv,g4,_⟩:=nF (P:=P) (w:=w) l_ jP h1 v8 true
    refine .same ak (v':=.slice (some a) 0 ((if mx.isNone then c else 0)-0)) ?_ ⟨i,m0,rfl,a,_,rfl⟩
    have a2:a.add (0*sz)=a:=by simp[Addr.add]
    simp[Instr.sliceAt,Instr.slice,bW hu,bb,run_sizeOf hs,Addr.add]
  · cases h
 ·
  rename_i n e b off hu
  obtain⟨i,m0,rfl⟩:=ab
  split at h
  · rename_i sz l af m hs hb
    cases h
    obtain⟨bb,a3,fv,g4,_⟩:=nF (P:=P) (w:=w) l_ jP h1 hb false
    refine .same ak (v':=.slice (some ⟨i.bj,i.base+(if m=l then off else off+l*sz),none⟩) (af-l) (m-l)) ?_ ⟨i,m0,rfl⟩
    by_cases e:m=l
    · simp[Instr.sliceAt,Instr.sureAddr,bW hu,bb,run_sizeOf hs,e]
    · simp[Instr.sliceAt,Instr.sureAddr,bW hu,bb,run_sizeOf hs,e,add_plain,Nat.add_assoc]
  · cases h
 ·
  rename_i arr b off hu
  obtain⟨i,m0,rfl⟩:=ab
  split at h
  · rename_i n e oD
    split at h
    · rename_i sz l af m hs hb
      cases h
      obtain⟨bb,a3,fv,g4,_⟩:=nF (P:=P) (w:=w) l_ jP h1 hb false
      refine .same ak (v':=.slice (some ⟨i.bj,i.base+(if m=l then off else off+l*sz),none⟩) (af-l) (m-l)) ?_ ⟨i,m0,rfl⟩
      by_cases e:m=l
      · simp[Instr.sliceAt,Instr.slice,asAddr,bW hu,bW oD,bb,run_sizeOf hs,e]
      · simp[Instr.sliceAt,Instr.slice,asAddr,bW hu,bW oD,bb,run_sizeOf hs,e,add_plain,Nat.add_assoc]
    · cases h
  · cases h
 · cases h
theorem qE{t:TypeId}{off:Nat}{cs:List I}{l:List Value}(au:cd μ cs l){v:I}(h:kO P t cs off=some v):∃u,(part t ⟨l⟩ off).run P w=.ok u w/\bc μ v u:=by
 unfold kO at h
 split at h
 · rename_i n a2 aK
   split at h
   · rename_i r ai
     cases h
     rw[mW] at ai
     obtain⟨aa,rfl⟩:=rY _ _ _ ai
     refine⟨.agg ⟨(l.drop off).take n⟩,?_,⟨_,rfl,?_⟩⟩
     · simp[part,tV a2,run_sizeOf aK,List.extract_eq_take_drop]
     · refine cd.vQ (by have:=au.length;simp[this]) λj a aL=>?_
       rw[List.getElem?_take] at aL⊢
       split at aL
       · rename_i BP
         rw[if_pos BP]
         rw[List.getElem?_drop] at aL⊢
         exact au.get aL
       · cases aL
   · cases h
 · rename_i _ a2
   rw[py] at h
   obtain⟨u,hu,ai⟩:=au.get h
   refine⟨u,?_,ai⟩
   simp[part,tV a2,hu]
 · cases h
theorem MZ(ak:br μ H w){t:TypeId}{cu:Array Field}{fd:Field}{f:Nat}(hu:P.underlying t=some (.struct cu))(hf:cu[f]? =some fd){cs:List I}{bA:Value}(ab:bc μ (.agg cs) bA){v:I}
  (h:kO P fd.type cs fd.offset=some v):e7 P μ H w (Instr.field t bA f) v H:=by
 obtain⟨l,rfl,au⟩:=ab
 obtain⟨u,aa,ad⟩:=qE (P:=P) (w:=w) au h
 exact .same ak (v':=u) (by simp[Instr.field,bW hu,hf,asAgg,aa]) ad
theorem M0(ak:br μ H w){s:TypeId}{cu:Array Field}{fd:Field}{f n b off:Nat}(hu:P.underlying s=some (.struct cu))(hf:cu[f]? =some fd)(aK:dt P fd.type=some n)(v9:n≠0){bA:Value}
  (ab:bc μ (.ptr b off) bA):e7 P μ H w (Instr.fieldAt s bA f) (.ptr b (off+fd.offset)) H:=by
 obtain⟨i,ae,rfl⟩:=ab
 refine .same ak (v':=.pointer (some ⟨i.bj,i.base+(off+fd.offset),none⟩)) ?_ ⟨i,ae,rfl⟩
 simp[Instr.fieldAt,bW hu,hf,Instr.sureAddr,fieldPlace,run_sizeOf aK,v9,add_plain,Nat.add_assoc]
theorem M1(ak:br μ H w){t e:TypeId}{b off n k sz:Nat}{c:b5}{bS:IntKind}(hu:P.underlying t=some (.slice e))(hs:dt P e=some sz){bA:Value}(ab:bc μ (.slice b off n c) bA)(aw:k<n):
  e7 P μ H w (Instr.indexAt t bA (.int bS (k:Int))) (.ptr b (off+k*sz)) H:=by
 obtain⟨i,ae,ah⟩:=ab
 have kT:∃cap,bA=.slice (some ⟨i.bj,i.base+off,none⟩) n cap:=by
  cases c with
  |exact c=>exact⟨c,ah⟩
  |aY gn=>obtain⟨c,h,_⟩:=ah;exact⟨c,h⟩
  |dead=>obtain⟨h0,_⟩:=ah;omega
 obtain⟨cap,rfl⟩:=kT
 refine .same ak (v':=.pointer (some ⟨i.bj,i.base+(off+k*sz),none⟩)) ?_ ⟨i,ae,rfl⟩
 simp only[Instr.indexAt,asIntOf,Sem.run_bind,Sem.run_pure,Result.andThen_ok,bW hu]
 rw[if_pos ⟨by omega,by omega⟩]
 simp[run_sizeOf hs,add_plain,Nat.add_assoc]
theorem M3(ak:br μ H w){t e:TypeId}{b off n k sz:Nat}{bS:IntKind}(hu:P.underlying t=some (.array n e))(hs:dt P e=some sz){bA:Value}(ab:bc μ (.ptr b off) bA)(aw:k<n):
  e7 P μ H w (Instr.indexAt t bA (.int bS (k:Int))) (.ptr b (off+k*sz)) H:=by
 obtain⟨i,ae,rfl⟩:=ab
 refine .same ak (v':=.pointer (some ⟨i.bj,i.base+(off+k*sz),none⟩)) ?_ ⟨i,ae,rfl⟩
 simp only[Instr.indexAt,asIntOf,Sem.run_bind,Sem.run_pure,Result.andThen_ok,bW hu,Instr.sureAddr]
 rw[if_pos ⟨by omega,by omega⟩]
 simp[run_sizeOf hs,add_plain,Nat.add_assoc]
theorem M4(ak:br μ H w){t e:TypeId}{n k sz:Nat}{bS:IntKind}{cs:List I}(hu:P.underlying t=some (.array n e))(hs:dt P e=some sz){bA:Value}(ab:bc μ (.agg cs) bA)(aw:k<n){v:I}
  (h:kO P e cs (k*sz)=some v):e7 P μ H w (Instr.index t bA (.int bS (k:Int))) v H:=by
 obtain⟨l,rfl,au⟩:=ab
 obtain⟨u,aa,ad⟩:=qE (P:=P) (w:=w) au h
 refine .same ak (v':=u) ?_ ad
 simp only[Instr.index,asIntOf,Sem.run_bind,Sem.run_pure,Result.andThen_ok,bW hu]
 rw[if_pos ⟨by omega,by omega⟩]
 simp[run_sizeOf hs,aa]
theorem M5(ak:br μ H w){t:TypeId}{k:Nat}{bS:IntKind}{s:List UInt8}(hu:P.underlying t=some .string){bA:Value}(ab:bc μ (.str s) bA){c:UInt8}(h:nth k s=some c):
  e7 P μ H w (Instr.index t bA (.int bS (k:Int))) (.int .u8 (Int.ofNat c.toNat)) H:=by
 obtain⟨bs,rfl,rfl⟩:=ab
 rw[py] at h
 refine .same ak (v':=.int .u8 (c.toNat:Int)) ?_ rfl
 have aw:k<bs.data.size:=by
  rcases Nat.lt_or_ge k bs.data.size with al|al
  · exact al
  · rw[List.getElem?_eq_none (by simpa using al)] at h;cases h
 have aj:bs[k]? =some c:=by
  rw[Array.getElem?_toList] at h
  rw[<-h]
  show(if h:k<bs.size then some bs[k] else none)=_
  have fj:k<bs.size:=aw
  rw[dif_pos fj,Array.getElem?_eq_getElem aw];rfl
 simp only[Instr.index,asIntOf,Sem.run_bind,Sem.run_pure,Result.andThen_ok,bW hu]
 rw[if_pos (by omega)]
 simp[aj]
end
end aD
namespace aD
open Go
section
variable {P:Program} {μ:bn} {H:J} {w:World}
theorem y0(μ:bn):∀l:List UInt8,cd μ (c5 l) (l.map λb=>.int .u8 b.toNat)
 |[]=>rfl
 |b::l=>⟨_,_,rfl,rfl,y0 μ l⟩
theorem M6(t:ByteArray):(t.extract 0 t.size)=t:=by
 obtain⟨d⟩:=t
 simp[ByteArray.ext_iff,ByteArray.data_extract,ByteArray.size]
theorem y1(ak:br μ H w){size n:Nat}{x:I}{bA:Value}(ab:bc μ x bA){cs:List I}(h:iK H size x=some (n,cs)):
  (Builtin.lenOf bA).run P w=.ok n w/\(∃us:List Value,(Builtin.firstCells size n bA).run P w=.ok ⟨us⟩ w/\cd μ cs us):=by
 cases x<;>simp only[iK] at h<;>try cases h
 · split at h<;>try cases h
   obtain⟨bs,rfl,rfl⟩:=ab
   refine⟨by rw[show bs.data.toList.length=bs.size from Array.length_toList];rfl,_,?_,y0 μ _⟩
   have bL:bs.data.toList.length=bs.size:=Array.length_toList
   simp only[Builtin.firstCells,Sem.run_pure,bL,M6]
   congr 1
   apply Array.ext'
   simp
 · cases ab
   exact⟨rfl,[],rfl,rfl⟩
 · rename_i b off len cap
   obtain⟨i,ae,ah⟩:=ab
   cases cap with
   |dead=>
    obtain⟨rfl,a,c,rfl⟩:=ah
    simp at h
    obtain⟨rfl,rfl⟩:=h
    exact⟨rfl,[],by simp[Builtin.firstCells,_root_.Go.loadCells,loadCellsFrom],rfl⟩
   |exact c=>
    cases ah
    simp only at h
    split at h
    · rename_i b6 au
      cases h
      obtain⟨us,aa,ad⟩:=qy (P:=P) ak ae au
      exact⟨rfl,us,by simp only[Builtin.firstCells];exact aa,ad⟩
    · cases h
   |aY gn=>
    obtain⟨c,rfl,_⟩:=ah
    simp only at h
    split at h
    · rename_i b6 au
      cases h
      obtain⟨us,aa,ad⟩:=qy (P:=P) ak ae au
      exact⟨rfl,us,by simp only[Builtin.firstCells];exact aa,ad⟩
    · cases h
theorem M7{z:Value}(n:Nat){mX:List I}(a4:cd μ mX z.cells.toList):cd μ (eT n mX) (Builtin.zeroCells z.cells n).toList:=by
 have:=vY a4 rfl n
 have au:=a4.length
 have ax:z.cells.toList.length=z.cells.size:=by simp
 rw[au,ax] at this
 exact this
theorem M8(need old:Nat)(h:old<need):Builtin.nextslicecap need old<=4*need+2048:=by
 unfold Builtin.nextslicecap
 split
 · omega
 · split
   · omega
   · have aj:∀rounds c,c<=2*need+768->(∀k,k<=rounds->True)->Builtin.growBy need rounds c<=4*need+2048:=by
       intro rounds
       induction rounds with
       |zero=>intro c ah _;simp only[Builtin.growBy];omega
       |succ r ba=>
        intro c ah _
        simp only[Builtin.growBy]
        split
        · omega
        · rename_i cy
          exact ba _ (by omega) (λ_ _=>trivial)
     exact aj 4 old (by omega) (λ_ _=>trivial)
theorem br.M9{w':World}(h:br μ H w){b:Nat}{o o':cx}{i:eG}(af:H.get b=some o)(ha:o.mV=false)(ae:μ b=some i)
  (hs:w'.heap.size=w.heap.size)(bd:∀r,r≠i.bj->w'.heap[r]? =w.heap[r]?)(vS:w'.os=w.os)(vT:w'.output=w.output)(BG:w'.tape=w.tape)(base sz:Nat)
  (ai:mU (gb μ H.n ⟨i.bj,base,sz⟩) o' ⟨i.bj,base,sz⟩ w')(hdr:w.drawn<=w'.drawn:=by first|exact Nat.le_refl _|assumption):
  br (gb μ H.n ⟨i.bj,base,sz⟩) ((H.set b none).push o') w'/\cb μ H w (gb μ H.n ⟨i.bj,base,sz⟩) ((H.set b none).push o') w':=by
 have hle:=h.nB ⟨i.bj,base,sz⟩
 have M_:b<H.n:=(h.lt b i ae).1
 have tU:H.get b≠none:=by rw[af];simp
 have fw:∀c,((H.set b none).push o').get c=if c=H.n then some o' else if c=b then none else H.get c:=λc=>by
  rw[J.eA,J.b_];rfl
 have px:∀c,c<H.n->((H.set b none).push o').get c≠none->c≠b/\H.get c≠none:=λc ah aK=>by
  rw[fw,if_neg (by omega)] at aK
  by_cases e:c=b
  · rw[if_pos e] at aK;exact absurd rfl aK
  · rw[if_neg e] at aK;exact⟨e,aK⟩
 constructor
 · refine⟨λc nC j ah aL=>?_,λc d j k ah aG aL aw e=>?_,λc j aL=>?_,λc ah=>?_⟩
   · rw[fw] at ah
     by_cases e:c=H.n
     · rw[if_pos e] at ah;subst e;cases ah;rw[gf] at aL;cases aL;exact ai
     · rw[if_neg e] at ah;rw[g0 _ _ e] at aL
       by_cases aC:c=b
       · rw[if_pos aC] at ah;cases ah
       · rw[if_neg aC] at ah
         exact(h.rel c nC j ah aL).mono hle (bd _ λcY=>aC (h.inj c b j i (by rw[ah];simp) ⟨o,af,ha⟩ aL ae cY))
   · have side:∀c j,c≠H.n->((H.set b none).push o').get c≠none->gb μ H.n ⟨i.bj,base,sz⟩ c=some j->j.bj≠i.bj:=λc j Gg ah aL e=>by
       rw[g0 _ _ Gg] at aL
       obtain⟨aV,aN⟩:=px c (h.lt c j aL).1 ah
       exact aV (h.inj c b j i aN ⟨o,af,ha⟩ aL ae e)
     by_cases aA:c=H.n
     · by_cases aC:d=H.n
       · rw[aA,aC]
       · subst aA;rw[gf] at aL;cases aL
         exact absurd e.symm (side d k aC (by obtain⟨x,ab,_⟩:=aG;rw[ab];simp) aw)
     · by_cases aC:d=H.n
       · subst aC;rw[gf] at aw;cases aw
         exact absurd e (side c j aA ah aL)
       · rw[g0 _ _ aA] at aL;rw[g0 _ _ aC] at aw
         exact h.inj c d j k (px c (h.lt c j aL).1 ah).2 (by
          obtain⟨x,ab,oy⟩:=aG
          rw[fw,if_neg aC] at ab
          split at ab
          · cases ab
          · exact⟨x,ab,oy⟩) aL aw e
   · by_cases e:c=H.n
     · subst e;rw[gf] at aL;cases aL
       have:=(h.lt b i ae).2
       exact⟨by simp,by rw[hs];exact this⟩
     · rw[g0 _ _ e] at aL
       have:=h.lt c j aL
       exact⟨by simp;omega,by rw[hs];exact this.2⟩
   · simp at ah
     rw[fw,if_neg (by omega),if_neg (by omega)];exact h.bound c (by omega)
 · refine⟨hle,by omega,by simp,λc ah aK=>(px c ah aK).2,λc ah hm=>(by rw[fw,if_neg (by omega),if_neg];intro e;subst e;rw[ae] at hm;cases hm),λr _ aK=>bd r λe=>aK b i tU ae e.symm,λc j aa ad=>?_,λc nC j ah qw aL=>?_,vS,vT,BG,hdr⟩
   · by_cases e:c=H.n
     · subst e;rw[gf] at ad;cases ad
       exact⟨Nat.le_refl _,.inr ⟨b,o,i,af,ha,ae,rfl⟩⟩
     · rw[g0 _ _ e,aa] at ad;cases ad
   · have dC:c≠b:=by intro e;subst e;rw[af] at ah;cases ah;rw[ha] at qw;cases qw
     have Gg:=(h.lt c j aL).1
     refine⟨by rw[fw,if_neg (by omega),if_neg dC];exact ah,bd _ λe=>dC (h.inj c b j i (by rw[ah];simp) ⟨o,af,ha⟩ aL ae e)⟩
theorem br.kill(h:br μ H w){b:Nat}{o:cx}{i:eG}(af:H.get b=some o)(ha:o.mV=false)(ae:μ b=some i):
  br μ (H.set b none) w/\cb μ H w μ (H.set b none) w:=by
 have px:∀c,(H.set b none).get c≠none->H.get c≠none:=λc aK=>by
  rw[J.b_] at aK
  by_cases e:c=b
  · rw[if_pos e] at aK;exact absurd rfl aK
  · rw[if_neg e] at aK;exact aK
 constructor
 · refine⟨λc nC j ah aL=>?_,λc d j k ah aG=>h.inj c d j k (px c ah) (by
     obtain⟨x,ab,oy⟩:=aG
     rw[J.b_] at ab
     split at ab
     · cases ab
     · exact⟨x,ab,oy⟩),h.lt,λc ah=>?_⟩
   · rw[J.b_] at ah
     by_cases e:c=b
     · rw[if_pos e] at ah;cases ah
     · rw[if_neg e] at ah;exact h.rel c nC j ah aL
   · rw[J.b_]
     split
     · rfl
     · exact h.bound c ah
 · refine⟨eV.refl μ,Nat.le_refl _,Nat.le_refl _,λc _ ah=>px c ah,λc _ hm=>(by rw[J.b_,if_neg];intro e;subst e;rw[ae] at hm;cases hm),λ_ _ _=>rfl,λc j aa ad=>(by rw[aa] at ad;cases ad),λc nC j ah qw aL=>⟨?_,rfl⟩,rfl,rfl,rfl,Nat.le_refl _⟩
   have dC:c≠b:=by intro e;subst e;rw[af] at ah;cases ah;rw[ha] at qw;cases qw
   rw[J.b_,if_neg dC];exact ah
theorem br.drew(h:br μ H w):br μ H w.drew:=h.of_heap rfl
theorem cb.drew:cb μ H w μ H w.drew:=cb.of_heap rfl rfl rfl rfl
theorem Na{need bytes:Nat}(h:ln need bytes=true):(4*need+2048)*bytes<=281474976710656/\need<=281474976710656:=by
 simp only[ln,Nat.ble_eq] at h
 have aa:(4*need+2048)*bytes<=(4*need+2048)*(bytes+1):=Nat.mul_le_mul_left _ (by omega)
 have ad:(4*need+2048)*1<=(4*need+2048)*(bytes+1):=Nat.mul_le_mul_left _ (by omega)
 refine⟨Nat.le_trans aa h,?_⟩
 have ax:=Nat.le_trans ad h
 rw[Nat.mul_one] at ax
 generalize 281474976710656=q at ax⊢
 omega
theorem Nb{sT e:TypeId}{xT:Option TypeId}{i:TypeInfo}{z:Value}{argTypes:Array TypeId}{ty:TypeId}(h0:argTypes[0]? =some sT)(aa:argTypes[1]? =xT)(hu:P.underlying sT=some (.slice e))(ab:oj P xT=true)(ae:P.info? e=some i)
  (a4:∀w:World,(zeroValue e).run P w=.ok z w){base:Option Addr}{sLen sCap n:Nat}{bA:Value}(au:(Builtin.lenOf bA).run P w=.ok n w){us old:List Value}(hold:(Builtin.firstCells i.size sLen (.slice base sLen sCap)).run P w.drew=.ok ⟨old⟩ w.drew)
  (kU:(Builtin.firstCells i.size n bA).run P w.drew=.ok ⟨us⟩ w.drew)(cy:sCap<sLen+n)(r2:ln (sLen+n) i.bytes=true):
  ∃ly,sLen+n<=ly/\(Builtin.append_ argTypes ty #[.slice base sLen sCap,bA]).run P w=
   .ok (.slice (some ⟨w.heap.size,0,none⟩) (sLen+n) ly) (w.drew.alloc (.cells (⟨old⟩++⟨us⟩++Builtin.zeroCells z.cells (ly-(sLen+n))) e)):=by
 obtain⟨cV,h2⟩:=Na r2
 have Nc:=M8 (sLen+n) sCap cy
 have tW:¬(Builtin.nextslicecap (sLen+n) sCap*i.bytes>2^48):=by
  have aa:Builtin.nextslicecap (sLen+n) sCap*i.bytes<=(4*(sLen+n)+2048)*i.bytes:=Nat.mul_le_mul_right _ Nc
  have ad:(2:Nat)^48=281474976710656:=by rfl
  rw[ad]
  exact Nat.not_lt.2 (Nat.le_trans aa cV)
 have Nd:IntKind.max .i64=9223372036854775807:=rfl
 have oE:¬(((sLen+n:Nat):Int)>IntKind.i64.max):=by rw[Nd];omega
 have Gh:¬(sLen+n<=sCap):=by omega
 have bL:∀w:World,(_root_.Go.sizeOf e).run P w=.ok i.size w:=λw=>by simp[_root_.Go.sizeOf,run_typeInfo ae]
 have y2:(Question.appendCap (sLen+n) sCap e).forced=false:=rfl
 have y3:∀w:World,(typeInfo e).run P w=.ok i w:=λw=>run_typeInfo ae
 have y4:∀(c:Nat) (cs:Array Value),(_root_.Go.newRow e cs).run P w.drew=.ok ⟨w.heap.size,0,none⟩ (w.drew.alloc (.cells cs e)):=λc cs=>rfl
 refine⟨(Question.appendCap (sLen+n) sCap e).cut (w.tape w.drawn (Question.appendCap (sLen+n) sCap e)),by simp[Question.cut],?_⟩
 cases xT with
 |none=>
  simp only[Builtin.append_,h0,aa,List.getElem?_toArray,List.getElem?_cons_zero,List.getElem?_cons_succ,Sem.run_bind,bW hu,Result.andThen_ok,bL,Sem.run_pure,au,Bool.false_eq_true,if_false,if_neg Gh,y3,oE,false_and,if_neg tW,
   run_choose,y2,run_askRoom,World.drew_eq,hold,kU,Bool.not_false,if_true,a4,y4 0]
 |some BQ=>
  simp only[oj] at ab
  cases aG:P.underlying BQ with
  |none=>rw[aG] at ab;cases ab
  |some d=>
   rw[aG] at ab
   cases d<;>first
   |(cases ab;done)
   |simp only[Builtin.append_,h0,aa,List.getElem?_toArray,List.getElem?_cons_zero,List.getElem?_cons_succ,Sem.run_bind,bW hu,bW aG,Result.andThen_ok,bL,Sem.run_pure,au,Bool.false_eq_true,if_false,if_neg Gh,y3,oE,false_and,if_neg tW,
    run_choose,y2,run_askRoom,World.drew_eq,hold,kU,Bool.not_false,if_true,a4,y4 0]
theorem v_{sT e:TypeId}{xT:Option TypeId}{i:TypeInfo}{argTypes:Array TypeId}{ty:TypeId}(h0:argTypes[0]? =some sT)(aa:argTypes[1]? =xT)(hu:P.underlying sT=some (.slice e))(ab:oj P xT=true)(ae:P.info? e=some i)
  {base:Option Addr}{sLen sCap n:Nat}{bA:Value}(au:(Builtin.lenOf bA).run P w=.ok n w){us:List Value}
  (kU:(Builtin.firstCells i.size n bA).run P w=.ok ⟨us⟩ w)(hle:sLen+n<=sCap):
  (Builtin.append_ argTypes ty #[.slice base sLen sCap,bA]).run P w=match base with
   |some a=>((_root_.Go.storeCells (a.add (sLen*i.size)) us).run P w).andThen λ_ w'=>.ok (.slice base (sLen+n) sCap) w'
   |none=>.ok (.slice base (sLen+n) sCap) w:=by
 have bL:∀w:World,(_root_.Go.sizeOf e).run P w=.ok i.size w:=λw=>by simp[_root_.Go.sizeOf,run_typeInfo ae]
 cases xT with
 |none=>
  cases base<;>simp only[Builtin.append_,h0,aa,List.getElem?_toArray,List.getElem?_cons_zero,List.getElem?_cons_succ,Sem.run_bind,bW hu,Result.andThen_ok,bL,Sem.run_pure,au,Bool.false_eq_true,if_false,if_pos hle,Bool.not_false,if_true,kU]
 |some BQ=>
  simp only[oj] at ab
  cases aG:P.underlying BQ with
  |none=>rw[aG] at ab;cases ab
  |some d=>
   rw[aG] at ab
   cases d<;>first
   |(cases ab;done)
   |cases base<;>simp only[Builtin.append_,h0,aa,List.getElem?_toArray,List.getElem?_cons_zero,List.getElem?_cons_succ,Sem.run_bind,bW hu,bW aG,Result.andThen_ok,bL,Sem.run_pure,au,Bool.false_eq_true,if_false,if_pos hle,Bool.not_false,if_true,kU]
theorem Nf{l:List I}(h:l.all I.bY=true):∀a∈l,a.bY=true:=λa a2=>List.all_eq_true.1 h a a2
theorem BR(ak:br μ H w){sT e:TypeId}{xT:Option TypeId}{i:TypeInfo}{z:I}{argTypes:Array TypeId}{ty:TypeId}(h0:argTypes[0]? =some sT)(aa:argTypes[1]? =xT)(hu:P.underlying sT=some (.slice e))(ab:oj P xT=true)
  (ae:P.info? e=some i)(a4:ew P e=some z){base:Option Addr}{sLen sCap n:Nat}{x:I}{bA:Value}(Gi:bc μ x bA){cs:List I}(gQ:iK H i.size x=some (n,cs)){old:List I}
  (hold:∃us:List Value,(Builtin.firstCells i.size sLen (.slice base sLen sCap)).run P w.drew=.ok ⟨us⟩ w.drew/\cd μ old us)(wa:old.length=sLen*i.size)(gR:cs.length=n*i.size)(cy:sCap<sLen+n){v:I}{H1 aX:J}(lr:br μ H1 w)(Ng:cb μ H w μ H1 w)
  {fz:Nat}(aj:ks H1 e i.bytes i.size (sLen+n) z (old++cs) fz=some (v,aX)):e7 P μ H w (Builtin.append_ argTypes ty #[.slice base sLen sCap,bA]) v aX:=by
 obtain⟨fk,Gj,rfl,af⟩:=lv (P:=P) (w:=w) a4
 have Nh:∀w:World,(zeroValue e).run P w=.ok fk w:=λw=>by
  unfold ew at a4
  simp only[ae] at a4
  cases Gk:i.zero with
  |none=>rw[Gk] at a4;cases a4
  |some Ni=>
   have aV:∀w:World,(zeroValue e).run P w=.ok Ni w:=λw=>by simp[zeroValue,run_typeInfo ae,Gk]
   rw[aV] at Gj
   cases Gj
   exact aV w
 obtain⟨au,us,lz,kV⟩:=y1 (P:=P) ak Gi gQ
 obtain⟨_,qF,Nj,Gl⟩:=y1 (P:=P) ak.drew Gi gQ
 obtain⟨os,vS,Gm⟩:=hold
 unfold ks at aj
 split at aj
 · rename_i ah
   simp only[Bool.and_eq_true] at ah
   obtain⟨⟨r2,mY⟩,fQ⟩:=ah
   cases aj
   obtain⟨ly,ma,BS⟩:=Nb (P:=P) (w:=w) (ty:=ty) h0 aa hu ab ae Nh au vS Nj cy r2
   have iA:=(jN μ fk).cells af
   have Nk:=Nat.eq_of_beq_eq_true mY
   have Nl:fk.cells.size=i.size:=by have:=iA.length;rw[Nk] at this;simpa using this.symm
   have Nm:cd μ (old++cs) (os++qF):=Gm.append Gl
   have Nn:os.length=sLen*i.size:=by rw[<-Gm.length,wa]
   have No:qF.length=n*i.size:=by rw[<-Gl.length,gR]
   have hmul:(sLen+n)*i.size=sLen*i.size+n*i.size:=Nat.add_mul _ _ _
   have Gn:ly*i.size=(sLen+n)*i.size+(ly-(sLen+n))*i.size:=by rw[<-Nat.add_mul,Nat.add_sub_of_le ma]
   have Np:0+ly*i.size=((⟨os⟩:Array Value)++⟨qF⟩++Builtin.zeroCells fk.cells (ly-(sLen+n))).size:=by
    have aV:(⟨os⟩:Array Value).size=sLen*i.size:=Nn
    have aN:(⟨qF⟩:Array Value).size=n*i.size:=No
    have cz:(Builtin.zeroCells fk.cells (ly-(sLen+n))).size=(ly-(sLen+n))*i.size:=by
     unfold Builtin.zeroCells;rw[Array.size_map,Array.size_range,Nl]
    rw[Array.size_append,Array.size_append,aV,aN,cz,Gn,hmul]
    omega
   have hle:=lr.drew.nB ⟨w.heap.size,0,ly*i.size⟩
   obtain⟨bb,a3⟩:=lr.drew.alloc (.cells (old++cs) e .aY 0 fz) (.cells (⟨os⟩++⟨qF⟩++Builtin.zeroCells fk.cells (ly-(sLen+n))) e) (ly*i.size)
    ⟨_,0,0,World.heap_alloc_new _ _,λj a aL=>by
      obtain⟨u,nD,ai⟩:=Nm.get aL
      refine⟨u,?_,ai.mono hle⟩
      have BT:j<(os++qF).length:=by
       rcases Nat.lt_or_ge j (os++qF).length with h|h
       · exact h
       · rw[List.getElem?_eq_none h] at nD;cases nD
      rw[Nat.zero_add,Array.getElem?_append_left (by simpa using BT)]
      simpa using nD,Np,by
      refine⟨?_,λj _ _ h=>by omega⟩
      simp[wa,gR];omega⟩
   refine⟨_,_,_,BS,⟨_,gf _ _ _,ly,rfl,ma,by simp⟩,bb,?_⟩
   exact Ng.trans ak lr (cb.drew.trans lr lr.drew a3)
 · cases aj
end
end aD
