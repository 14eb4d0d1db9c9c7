/-
  THE ABSTRACT EVALUATOR (the evaluator's definitions; values and memory): a deterministic semantics of loaded code, and the proof that its runs are runs of the program in the model, whatever the tape draws. No condition.
-/
import GoSem.Step
import Derived.Calls
import Derived.Laws.Sem
import Derived.Laws.World
set_option linter.unusedVariables false
set_option linter.unusedSimpArgs false
namespace a8
open Go
inductive c7 where
 |exact(n:Nat)
 |aS (fw:Nat)
 |dead
inductive I where
 |bad
 |bool (b:Bool)
 |int (k:IntKind) (n:Int)
 |str (s:List UInt8)
 |br
 |ptr (b off:Nat)
 |bd
 |slice (b off len:Nat) (cap:c7)
 |g2
 |map (r:Nat)
 |eY
 |fn (f:Nat) (first aG:List I)
 |cS (l:Nat)
 |ea
 |iface (t:Nat) (v:I)
 |agg (cs:List I)
 |aJ (vs:List I)
 deriving Inhabited
def I.cw:I->Bool
 |.bad|.agg _|.aJ _=>false
 |_=>true
def I.cells:I->List I
 |.agg cs=>cs
 |v=>[v]
inductive hg where
 |here|l (p:hg)|r (p:hg)
inductive aN where
 |leaf
 |node (l:aN) (v:I) (r:aN)
def uS:Nat->Nat->hg
 |0,_=>.here
 |f+1,n=>match n with
  |0=>.here
  |m+1=>match Nat.mod m 2 with
   |0=>.l (uS f (Nat.div m 2))
   |_=>.r (uS f (Nat.div m 2))
def fV(n:Nat):hg:=uS n n
def aN.get:hg->aN->I
 |.here,.node _ v _=>v
 |.l p,.node l _ _=>get p l
 |.r p,.node _ _ r=>get p r
 |_,.leaf=>.bad
def aN.AM(l:aN)(v:I)(r:aN):aN:=match l with
 |.leaf=>.node .leaf v r
 |.node a b c=>.node (.node a b c) v r
def aN.AN(l:aN)(v:I)(r:aN):aN:=match r with
 |.leaf=>.node l v .leaf
 |.node a b c=>.node l v (.node a b c)
def aN.set:hg->I->aN->aN
 |.here,x,.node l _ r=>.node l x r
 |.here,x,.leaf=>.node .leaf x .leaf
 |.l p,x,.node l v r=>aN.AM (set p x l) v r
 |.l p,x,.leaf=>aN.AM (set p x .leaf) .bad .leaf
 |.r p,x,.node l v r=>aN.AN l v (set p x r)
 |.r p,x,.leaf=>aN.AN .leaf .bad (set p x .leaf)
inductive hz where
 |own|aS|ro|fz
 deriving DecidableEq
structure db where
 key:I
 val:I
 born:Nat
inductive bz where
 |call (f:Nat) (args:List I)
 |collected (r:Nat)
inductive cX where
 |cells (cs:List I) (el:Nat) (k:hz) (aY ag:Nat)
 |map (es:List db) (clock:Nat)
 |pn (s:List UInt8) (pos:Nat)
 |mapIter (m:Option Nat) (since:Nat) (seen:List Nat) (last:Nat)
 |loop (st:LoopState) (eZ:Option Code) (fn:Nat) (k2:aN) (params:List Nat) (assign body:Code) (defers:Nat)
 |defrd (calls:Option (List bz))
 |raw (o:Obj)
inductive eg where
 |leaf
 |node (l:eg) (v:Option cX) (r:eg)
def eg.get:eg->Nat->Option cX
 |.leaf,_=>none
 |.node l v r,n=>match n with
  |0=>v
  |m+1=>match Nat.mod m 2 with
   |0=>get l (Nat.div m 2)
   |_=>get r (Nat.div m 2)
def eg.jZ:Nat->eg->Nat->Option cX->eg
 |0,t,_,_=>t
 |f+1,.leaf,n,x=>match n with
  |0=>.node .leaf x .leaf
  |m+1=>match Nat.mod m 2 with
   |0=>.node (jZ f .leaf (Nat.div m 2) x) none .leaf
   |_=>.node .leaf none (jZ f .leaf (Nat.div m 2) x)
 |f+1,.node l v r,n,x=>match n with
  |0=>.node l x r
  |m+1=>match Nat.mod m 2 with
   |0=>.node (jZ f l (Nat.div m 2) x) v r
   |_=>.node l v (jZ f r (Nat.div m 2) x)
structure ab where
 t:eg
 n:Nat
def ab.get(h:ab)(b:Nat):Option cX:=h.t.get b
def ab.set(h:ab)(b:Nat)(o:Option cX):ab:=⟨eg.jZ (b+1) h.t b o,h.n⟩
def ab.push(h:ab)(o:cX):ab:=⟨eg.jZ (h.n+1) h.t h.n (some o),h.n+1⟩
inductive fW where
 |val (v:I) (h:ab)
 |bK (v:I) (h:ab)
 |call (f:Nat) (args:List I) (h:ab)
 |cS (l:Nat) (args:List I) (h:ab)
 |j0 (d:bz)
 |qO
 |fail (h1:String)
inductive a7 where
 |ret (v:I) (h:ab)
 |bK (v:I) (h:ab)
 |fail (h1:String)
mutual
def mr:Value->I
 |.bool b=>.bool b
 |.int k n=>.int k n
 |.string s=>.str s.data.toList
 |.pointer none=>.br
 |.slice none 0 0=>.bd
 |.map none=>.g2
 |.nilFunc=>.eY
 |.nilIface=>.ea
 |.agg ⟨cs⟩=>.agg (xE cs)
 |.tuple ⟨vs⟩=>.aJ (xE vs)
 |_=>.bad
def xE:List Value->List I
 |[]=>[]
 |v::vs=>mr v::xE vs
end
def nth{α:Type}:Nat->List α->Option α
 |_,[]=>none
 |0,a::_=>some a
 |n+1,_::l=>nth n l
def takeN:Nat->List I->Option (List I)
 |0,_=>some []
 |_+1,[]=>none
 |n+1,a::l=>match takeN n l with
  |some r=>some (a::r)
  |none=>none
def ih{α:Type}:Nat->List α->List α
 |0,l=>l
 |_+1,[]=>[]
 |n+1,_::l=>ih n l
def dv:List UInt8->List UInt8->Bool
 |[],[]=>true
 |a::x,b::y=>match Nat.beq a.toNat b.toNat with
  |true=>dv x y
  |false=>false
 |_,_=>false
def eR:List UInt8->List UInt8->Bool
 |_,[]=>false
 |[],_::_=>true
 |a::x,b::y=>match Nat.beq a.toNat b.toNat with
  |true=>eR x y
  |false=>Nat.blt a.toNat b.toNat
def fx(x y:Int):Bool:=decide (x<y)
def gN(x y:Int):Bool:=decide (x<=y)
def cW(x y:Int):Bool:=x==y
def loadCells(h:ab)(b off n:Nat):Option (List I):=
 match h.get b with
 |some (.cells cs _ _ _ _)=>takeN n (ih off cs)
 |_=>none
def aB(h:ab)(b off:Nat):Option I:=
 match h.get b with
 |some (.cells cs _ _ _ _)=>nth off cs
 |_=>none
def jz(k:hz)(aY ag off n:Nat):Bool:=
 match k with
 |.ro|.fz=>false
 |_=>Nat.ble ag aY||Nat.ble (off+n) aY||Nat.ble ag off
def ff:Nat->List I->List I->Option (List I)
 |0,[],cs=>some cs
 |0,_::_,[]=>none
 |0,v::vs,_::cs=>match v.cw with
  |true=>match ff 0 vs cs with
   |some r=>some (v::r)
   |none=>none
  |false=>none
 |_+1,[],cs=>some cs
 |_+1,_::_,[]=>none
 |n+1,vs,c::cs=>match ff n vs cs with
  |some r=>some (c::r)
  |none=>none
def storeCells(h:ab)(b off:Nat)(vs:List I):Option ab:=
 match h.get b with
 |some (.cells cs el k aY ag)=>
  match jz k aY ag off vs.length with
  |true=>match ff off vs cs with
   |some bw=>some (h.set b (some (.cells bw el k aY ag)))
   |none=>none
  |false=>none
 |_=>none
def newRow(h:ab)(el:Nat)(cs:List I):Option (Nat×ab):=
 match cs.all I.cw with
 |true=>some (h.n,h.push (.cells cs el .own 0 0))
 |false=>none
def oh(P:Program)(t:TypeId):Option Bool:=
 match P.underlying t with
 |some (.struct _)=>some true
 |some (.array _ _)=>some true
 |some _=>some false
 |none=>none
def cY(P:Program)(t:TypeId):Option Nat:=match P.info? t with
 |some i=>some i.size
 |none=>none
def dt(P:Program)(t:TypeId):Option I:=match P.info? t with
 |some i=>match i.zero with
  |some z=>match mr z with
   |.bad=>none
   |a=>some a
  |none=>none
 |none=>none
def hP(P:Program)(t:TypeId)(cs:List I)(off:Nat):Option I:=
 match oh P t,cY P t with
 |some true,some n=>match takeN n (ih off cs) with
  |some r=>some (.agg r)
  |none=>none
 |some false,_=>nth off cs
 |_,_=>none
def iz(place:Nat->Option (Nat×Nat))(cells:List I):List (Nat×I)->Option (List I)
 |[]=>some cells
 |(i,v)::rest=>
  match v with
  |.bad=>none
  |v=>match place i with
   |none=>none
   |some (off,size)=>
    match Nat.beq v.cells.length size&&Nat.ble (off+size) cells.length with
    |true=>match ff off v.cells cells with
     |some L4=>iz place L4 rest
     |none=>none
    |false=>none
def ew{α:Type}:Nat->List α->List α
 |0,_=>[]
 |n+1,l=>l++ew n l
def eqFields(P:Program)(E:TypeId->I->I->Option Bool)(xs ys:List I):List Field->Option Bool
 |[]=>some true
 |f::b0=>match decide (f.name= "_") with
  |true=>eqFields P E xs ys b0
  |false=>match hP P f.type xs f.offset,hP P f.type ys f.offset with
   |some a,some b=>match E f.type a b with
    |some true=>eqFields P E xs ys b0
    |r=>r
   |_,_=>none
def uT(P:Program)(E:TypeId->I->I->Option Bool)(e:TypeId)(sz:Nat)(xs ys:List I):Nat->Nat->Option Bool
 |0,_=>some true
 |n+1,i=>match hP P e xs (i*sz),hP P e ys (i*sz) with
  |some a,some b=>match E e a b with
   |some true=>uT P E e sz xs ys n (i+1)
   |r=>r
  |_,_=>none
def AO(h:ab)(a i b j:Nat):Option Bool:=
 match Nat.beq a b with
 |true=>some (Nat.beq i j)
 |false=>match h.get a,h.get b with
  |some (.cells _ _ .own 0 0),some (.cells _ _ .own 0 0)=>some false
  |_,_=>none
def e0(P:Program)(h:ab):Nat->TypeId->I->I->Option Bool
 |0,_,_,_=>none
 |d+1,t,x,y=>
  match P.underlying t with
  |none=>none
  |some .bool=>match x,y with
   |.bool a,.bool b=>some (a==b)
   |_,_=>none
  |some (.int _)=>match x,y with
   |.int j a,.int k b=>if j=k then some (cW a b) else none
   |_,_=>none
  |some .string=>match x,y with
   |.str a,.str b=>some (dv a b)
   |_,_=>none
  |some (.pointer e)=>match x,y with
   |.br,.br=>some true
   |.br,.ptr _ _=>some false
   |.ptr _ _,.br=>some false
   |.ptr a i,.ptr b j=>match cY P e with
    |some (_+1)=>AO h a i b j
    |_=>none
   |_,_=>none
  |some (.slice _)=>match x,y with
   |.bd,.bd=>some true
   |.bd,.slice _ _ _ _=>some false
   |.slice _ _ _ _,.bd=>some false
   |_,_=>none
  |some (.map _ _)=>match x,y with
   |.g2,.g2=>some true
   |.g2,.map _=>some false
   |.map _,.g2=>some false
   |_,_=>none
  |some (.func _ _ _)=>match x,y with
   |.eY,.eY=>some true
   |.eY,.fn _ _ _=>some false
   |.fn _ _ _,.eY=>some false
   |_,_=>none
  |some (.interface _)=>match x,y with
   |.ea,.ea=>some true
   |.ea,.iface _ _=>some false
   |.iface _ _,.ea=>some false
   |.iface a v,.iface b w=>match Nat.beq a b with
    |false=>some false
    |true=>match P.info? a with
     |some i=>match i.comparable with
      |true=>e0 P h d a v w
      |false=>none
     |none=>none
   |_,_=>none
  |some (.struct b0)=>match x,y with
   |.agg xs,.agg ys=>match P.stoodInHeld t with
    |true=>none
    |false=>eqFields P (e0 P h d) xs ys b0.toList
   |_,_=>none
  |some (.array n e)=>match x,y with
   |.agg xs,.agg ys=>match cY P e with
    |some sz=>uT P (e0 P h d) e sz xs ys n 0
    |none=>none
   |_,_=>none
  |some _=>none
def po(P:Program)(t:TypeId)(x y:Operand)(a b:I):Bool:=
 match a,b with
 |.ea,.ea=>(x matches .const _)||(y matches .const _)
 |.agg _,.agg _=>!P.eqGuardType P.depth t
 |_,_=>true
def arith(op:BinOp)(k:IntKind)(x y:Int):Option I:=
 match op with
 |.add=>some (.int k (k.wrap (x+y)))
 |.sub=>some (.int k (k.wrap (x-y)))
 |.mul=>some (.int k (k.wrap (x*y)))
 |.quo=>if y=0 then none else some (.int k (k.wrap (x.tdiv y)))
 |.rem=>if y=0 then none else some (.int k (x.tmod y))
 |.and=>some (.int k (k.wrap (BitVec.ofInt k.bits x&&&BitVec.ofInt k.bits y).toNat))
 |.or=>some (.int k (k.wrap (BitVec.ofInt k.bits x|||BitVec.ofInt k.bits y).toNat))
 |.xor=>some (.int k (k.wrap (BitVec.ofInt k.bits x^^^BitVec.ofInt k.bits y).toNat))
 |.andNot=>some (.int k (k.wrap (BitVec.ofInt k.bits x&&& ~~~BitVec.ofInt k.bits y).toNat))
 |.eql=>some (.bool (cW x y))
 |.neq=>some (.bool (!cW x y))
 |.lss=>some (.bool (fx x y))
 |.leq=>some (.bool (gN x y))
 |.gtr=>some (.bool (fx y x))
 |.geq=>some (.bool (gN y x))
 |_=>none
def pq(op:BinOp)(k:IntKind)(x y:Int):Option I:=
 if y<0 then none else
 match op with
 |.shl=>some (.int k (k.wrap (x*2^(min y.toNat k.bits))))
 |.shr=>some (.int k (x.fdiv (2^(min y.toNat k.bits))))
 |_=>none
def qP(op:BinOp)(x y:List UInt8):Option I:=
 match op with
 |.add=>if((x.length+y.length:Nat):Int)>IntKind.i64.max then none else some (.str (x++y))
 |.eql=>some (.bool (dv x y))
 |.neq=>some (.bool (!dv x y))
 |.lss=>some (.bool (eR x y))
 |.leq=>some (.bool (!eR y x))
 |.gtr=>some (.bool (eR y x))
 |.geq=>some (.bool (!eR x y))
 |_=>none
def e1(P:Program)(h:ab)(op:BinOp)(t:TypeId)(jg jh:Operand)(x y:I):Option I:=
 match x,y with
 |.int k a,.int dA b=>
  match op with
  |.shl|.shr=>pq op k a b
  |_=>if k=dA then arith op k a b else none
 |.str a,.str b=>qP op a b
 |x,y=>
  match op with
  |.eql=>if po P t jg jh x y then(match e0 P h 100 t x y with
   |some b=>some (.bool b)
   |none=>none) else none
  |.neq=>if po P t jg jh x y then(match e0 P h 100 t x y with
   |some b=>some (.bool (!b))
   |none=>none) else none
  |_=>none
def eb:I->Option Nat
 |.int _ (.ofNat n)=>some n
 |_=>none
def g3(d:Nat):Option I->Option Nat
 |none=>some d
 |some v=>eb v
def bounds(len cap:Nat)(aY ag mx:Option I):Option (Nat×Nat×Nat):=
 match g3 cap mx with
 |none=>none
 |some m=>match Nat.ble m cap with
  |false=>none
  |true=>match(match ag,mx with
     |none,none=>some len
     |none,some _=>none
     |some v,_=>eb v) with
   |none=>none
   |some ah=>match Nat.ble ah m with
    |false=>none
    |true=>match g3 0 aY with
     |none=>none
     |some l=>match Nat.ble l ah with
      |false=>none
      |true=>some (l,ah,m)
def ec(P:Program)(h:ab)(t:TypeId)(x:I)(aY ag mx:Option I):Option I:=
 match P.underlying t,x with
 |some .string,.str s=>match mx with
  |some _=>none
  |none=>match bounds s.length s.length aY ag none with
   |some (l,ah,_)=>some (.str (List.take (ah-l) (ih l s)))
   |none=>none
 |some (.slice e),.bd=>match cY P e,bounds 0 0 aY ag mx with
  |some _,some _=>some .bd
  |_,_=>none
 |some (.slice e),.slice b off len (.exact cap)=>match cY P e,bounds len cap aY ag mx with
  |some sz,some (l,ah,m)=>some (.slice b (if m=l then off else off+l*sz) (ah-l) (.exact (m-l)))
  |_,_=>none
 |some (.slice e),.slice b off len (.aS fw)=>match cY P e with
  |some sz=>if sz=fw then(match mx with
   |none=>match bounds len len aY ag none with
    |some (l,ah,_)=>if l=0 then some (.slice b off ah (.aS fw)) else if Nat.blt l len then some (.slice b (off+l*sz) (ah-l) (.aS fw)) else some (.slice b off 0 .dead)
    |none=>none
   |some _=>match bounds len len aY ag mx with
    |some (l,ah,m)=>some (.slice b (if m=l then off else off+l*sz) (ah-l) (.exact (m-l)))
    |none=>none) else none
  |none=>none
 |some (.slice e),.slice b off len .dead=>match cY P e,bounds 0 0 aY ag mx with
  |some _,some _=>some (.slice b off 0 .dead)
  |_,_=>none
 |some (.array n e),.ptr b off=>match cY P e,bounds n n aY ag mx with
  |some sz,some (l,ah,m)=>some (.slice b (if m=l then off else off+l*sz) (ah-l) (.exact (m-l)))
  |_,_=>none
 |some (.pointer arr),.ptr b off=>match P.underlying arr with
  |some (.array n e)=>match cY P e,bounds n n aY ag mx with
   |some sz,some (l,ah,m)=>some (.slice b (if m=l then off else off+l*sz) (ah-l) (.exact (m-l)))
   |_,_=>none
  |_=>none
 |_,_=>none
def cr(P:Program)(h:ab)(t:TypeId)(x:I):Option I:=
 match P.underlying t,x with
 |some .string,.str s=>some (.int .i64 (Int.ofNat s.length))
 |some (.array n _),_=>some (.int .i64 (Int.ofNat n))
 |some (.slice _),.slice _ _ n _=>some (.int .i64 (Int.ofNat n))
 |some (.slice _),.bd=>some (.int .i64 0)
 |some (.map _ _),.g2=>some (.int .i64 0)
 |some (.map _ _),.map r=>match h.get r with
  |some (.map es _)=>some (.int .i64 (Int.ofNat es.length))
  |_=>none
 |some (.pointer a),_=>match P.underlying a with
  |some (.array n _)=>some (.int .i64 (Int.ofNat n))
  |_=>none
 |_,_=>none
def sO(P:Program)(t:TypeId)(x:I):Option I:=
 match P.underlying t,x with
 |some (.array n _),_=>some (.int .i64 (Int.ofNat n))
 |some (.slice _),.slice _ _ _ (.exact n)=>some (.int .i64 (Int.ofNat n))
 |some (.slice _),.bd=>some (.int .i64 0)
 |_,_=>none
def cI:List UInt8->List I
 |[]=>[]
 |b::l=>.int .u8 (Int.ofNat b.toNat)::cI l
def fF(h:ab)(size:Nat):I->Option (Nat×List I)
 |.bd=>some (0,[])
 |.str s=>match size with
  |1=>some (s.length,cI s)
  |_=>none
 |.slice b off len .dead=>if len=0 then some (0,[]) else none
 |.slice b off len _=>match loadCells h b off (len*size) with
  |some cs=>some (len,cs)
  |none=>none
 |_=>none
def jA(need bytes:Nat):Bool:=Nat.ble ((4*need+2048)*(bytes+1)) 281474976710656
def ni(P:Program):Option TypeId->Bool
 |none=>true
 |some t=>match P.underlying t with
  |some (.int _)=>false
  |some _=>true
  |none=>false
def ji(h:ab)(e bytes size need:Nat)(z:I)(cs:List I)(fz:Nat):Option (I×ab):=
 match jA need bytes&&Nat.beq z.cells.length size&&cs.all I.cw with
 |true=>some (.slice h.n 0 need (.aS size),h.push (.cells cs e .aS 0 fz))
 |false=>none
def eh(P:Program)(h:ab)(sT:TypeId)(xT:Option TypeId)(s x:I):Option (I×ab):=
 match P.underlying sT,ni P xT with
 |some (.slice e),true=>
  match P.info? e,dt P e with
  |some i,some z=>
   match fF h i.size x with
   |none=>none
   |some (n,cs)=>
    match s with
    |.bd=>match n with
     |0=>some (.bd,h)
     |_=>ji h e i.bytes i.size n z cs 0
    |.slice b off len (.exact cap)=>
     match Nat.ble (len+n) cap with
     |true=>match n with
      |0=>some (.slice b off len (.exact cap),h)
      |_=>match storeCells h b (off+len*i.size) cs with
       |some ao=>some (.slice b off (len+n) (.exact cap),ao)
       |none=>none
     |false=>match loadCells h b off (len*i.size) with
      |some old=>ji h e i.bytes i.size (len+n) z (old++cs) 0
      |none=>none
    |.slice b off len (.aS fw)=>
     match Nat.beq fw i.size&&Nat.blt 0 fw with
     |true=>match n with
      |0=>some (s,h)
      |_=>match h.get b with
       |some (.cells old el .aS aY ag)=>
        match Nat.ble (off+(len+n)*fw) old.length with
        |true=>match storeCells h b (off+len*fw) cs with
         |some ao=>some (.slice b off (len+n) (.aS fw),ao)
         |none=>none
        |false=>match Nat.ble ag (off+len*fw)&&Nat.beq el e,loadCells h b off (len*fw) with
         |true,some o=>ji (h.set b none) e i.bytes i.size (len+n) z (o++cs) (ag-off)
         |_,_=>none
       |_=>none
     |false=>none
    |_=>none
  |_,_=>none
 |_,_=>none
def sP(P:Program)(h:ab)(xF:TypeId)(d s:I):Option (I×ab):=
 match P.underlying xF with
 |some (.slice e)=>match cY P e with
  |some sz=>match fF h sz s with
   |some (n,cs)=>match d with
    |.bd=>some (.int .i64 0,h)
    |.slice b off len _=>
     let m:=Nat.min n len
     if m=0 then some (.int .i64 0,h) else
     match takeN (m*sz) cs with
     |some bw=>match storeCells h b off bw with
      |some ao=>some (.int .i64 (Int.ofNat m),ao)
      |none=>none
     |none=>none
    |_=>none
   |none=>none
  |none=>none
 |_=>none
def nj(P:Program)(h:ab)(t:TypeId)(x:I):Option (I×ab):=
 match P.underlying t,x with
 |some (.map _ _),.g2=>some (.aJ [],h)
 |some (.slice _),.bd=>some (.aJ [],h)
 |some (.map _ _),.map r=>match h.get r with
  |some (.map _ c)=>some (.aJ [],h.set r (some (.map [] c)))
  |_=>none
 |some (.slice e),.slice b off n _=>if n=0 then some (.aJ [],h) else
  match dt P e with
  |some z=>match storeCells h b off (ew n z.cells) with
   |some ao=>some (.aJ [],ao)
   |none=>none
  |none=>none
 |_,_=>none
def uU:I->I->Option I
 |.int k x,.int dA y=>if k=dA then some (.int k (if fx y x then y else x)) else none
 |_,_=>none
def pr:I->I->Option I
 |.int k x,.int dA y=>if k=dA then some (.int k (if fx x y then y else x)) else none
 |_,_=>none
def mu(f:I->I->Option I):I->List I->Option I
 |x,[]=>some x
 |x,y::l=>match f x y with
  |some z=>mu f z l
  |none=>none
def lM:List I->Option (List UInt8)
 |[]=>some []
 |.int .u8 (.ofNat n)::l=>match Nat.blt n 256,lM l with
  |true,some r=>some (UInt8.ofNat n::r)
  |_,_=>none
 |_=>none
def nk(P:Program)(h:ab)(pT:TypeId)(p n:I):Option (I×ab):=
 match p,eb n with
 |.br,some 0=>some (.str [],h)
 |.ptr b off,some n=>if n=0 then some (.str [],h) else
  match P.underlying pT,h.get b with
  |some (.pointer u),some (.cells cs el k aY ag)=>
   if P.underlyingId el=P.underlyingId u&&cY P el=some 1&&Nat.ble n 281474976710656&&decide (k≠ .ro) then
    (match takeN n (ih off cs) with
    |some r=>match lM r with
     |some bs=>some (.str bs,h.set b (some (.cells cs el .fz aY ag)))
     |none=>none
    |none=>none) else none
  |_,_=>none
 |_,_=>none
def mv(P:Program)(kt:TypeId)(k:I):Bool:=
 match P.underlying kt with
 |some (.int _)=>match k with
  |.int _ _=>true
  |_=>false
 |some .string=>match k with
  |.str _=>true
  |_=>false
 |some .bool=>match k with
  |.bool _=>true
  |_=>false
 |_=>false
def xG(P:Program)(cs:List I):List Field->Bool
 |[]=>true
 |f::b0=>match hP P f.type cs f.offset with
  |some a=>match mv P f.type a with
   |true=>xG P cs b0
   |false=>false
  |none=>false
def xH(P:Program)(e:TypeId)(sz:Nat)(cs:List I):Nat->Nat->Bool
 |0,_=>true
 |n+1,i=>match hP P e cs (i*sz) with
  |some a=>match mv P e a with
   |true=>xH P e sz cs n (i+1)
   |false=>false
  |none=>false
def kz(P:Program)(kt:TypeId)(k:I):Bool:=
 match k with
 |.agg cs=>match P.underlying kt with
  |some (.struct b0)=>xG P cs b0.toList
  |some (.array n e)=>match cY P e with
   |some sz=>xH P e sz cs n 0
   |none=>false
  |_=>false
 |k=>mv P kt k
def nn:I->I->Option Bool
 |.int j a,.int k b=>if j=k then some (cW a b) else none
 |.str a,.str b=>some (dv a b)
 |.bool a,.bool b=>some (a==b)
 |_,_=>none
def uV:List I->List I->Bool
 |[],[]=>true
 |a::l,b::m=>match nn a b with
  |some true=>uV l m
  |_=>false
 |_,_=>false
def pt(k x:I):Bool:=match k,x with
 |.agg a,.agg b=>uV a b
 |.agg _,_=>false
 |_,_=>true
def np(P:Program)(h:ab)(kt:TypeId)(k x:I):Option Bool:=match k with
 |.agg cs=>e0 P h 8 kt (.agg cs) x
 |k=>nn k x
def ij(P:Program)(h:ab)(kt:TypeId)(k:I):List db->Nat->Option (Option (Nat×I))
 |[],_=>some none
 |e::es,i=>match np P h kt k e.key with
  |some true=>some (some (i,e.val))
  |some false=>ij P h kt k es (i+1)
  |none=>none
def uW(i:Nat)(es:List db):I:=match nth i es with
 |some e=>e.key
 |none=>.bad
def oi(v:I)(key:I):Nat->List db->List db
 |_,[]=>[]
 |0,e::es=>⟨key,v,e.born⟩::es
 |n+1,e::es=>e::oi v key n es
def nq(P:Program)(h2:TypeId)(ok:Bool):Option (Nat×I)->Option I
 |some (_,v)=>some (if ok then .aJ [v,.bool true] else v)
 |none=>match dt P h2 with
  |some z=>some (if ok then .aJ [z,.bool false] else z)
  |none=>none
def gv(P:Program)(h:ab)(t:TypeId)(m k:I)(ok:Bool):Option I:=
 match P.underlying t with
 |some (.map kt h2)=>match kz P kt k with
  |true=>match m with
   |.g2=>nq P h2 ok none
   |.map r=>match h.get r with
    |some (.map es _)=>match ij P h kt k es 0 with
     |some r=>nq P h2 ok r
     |none=>none
    |_=>none
   |_=>none
  |false=>none
 |_=>none
def sQ(P:Program)(h:ab)(t:TypeId)(m k v:I):Option ab:=
 match P.underlying t with
 |some (.map kt _)=>match kz P kt k with
  |true=>match m with
   |.map r=>match h.get r with
    |some (.map es clock)=>match ij P h kt k es 0 with
     |some (some (i,_))=>match pt k (uW i es) with
      |true=>some (h.set r (some (.map (oi v k i es) clock)))
      |false=>none
     |some none=>some (h.set r (some (.map (es++[⟨k,v,clock⟩]) (clock+1))))
     |none=>none
    |_=>none
   |_=>none
  |false=>none
 |_=>none
def nr(P:Program)(h:ab)(t:TypeId)(m k:I):Option (I×ab):=
 match P.underlying t with
 |some (.map kt h2)=>match kz P kt k with
  |true=>match m with
   |.map r=>match h.get r with
    |some (.map es clock)=>match ij P h kt k es 0 with
     |some (some (i,v))=>match nth i es with
      |some e=>match pt k e.key with
       |true=>some (.aJ [v,.int .i64 (Int.ofNat e.born)],h.set r (some (.map (oi v k i es) clock)))
       |false=>none
      |none=>none
     |some none=>match dt P h2 with
      |some z=>some (.aJ [z,.int .i64 (Int.ofNat clock)],h.set r (some (.map (es++[⟨k,z,clock⟩]) (clock+1))))
      |none=>none
     |none=>none
    |_=>none
   |_=>none
  |false=>none
 |_=>none
def qQ(born:Int):List db->Nat->Option (Nat×db)
 |[],_=>none
 |e::es,i=>match cW (Int.ofNat e.born) born with
  |true=>some (i,e)
  |false=>qQ born es (i+1)
def nt(h:ab)(m s v:I):Option ab:=
 match m,s with
 |.map r,.int _ born=>match h.get r with
  |some (.map es clock)=>match qQ born es 0 with
   |some (i,e)=>some (h.set r (some (.map (oi v e.key i es) clock)))
   |none=>none
  |_=>none
 |_,_=>none
def uX:Nat->List db->List db
 |_,[]=>[]
 |0,_::es=>es
 |n+1,e::es=>e::uX n es
def nu(P:Program)(h:ab)(t:TypeId)(m k:I):Option (I×ab):=
 match P.underlying t with
 |some (.map kt _)=>match kz P kt k with
  |true=>match m with
   |.g2=>some (.aJ [],h)
   |.map r=>match h.get r with
    |some (.map es clock)=>match ij P h kt k es 0 with
     |some (some (i,_))=>some (.aJ [],h.set r (some (.map (uX i es) clock)))
     |some none=>some (.aJ [],h.set r (some (.map es clock)))
     |none=>none
    |_=>none
   |_=>none
  |false=>none
 |_=>none
def AP(s:List UInt8):Nat×Nat:=Utf8.decode ⟨s.toArray⟩ 0
def xI(h:ab)(it:I)(isStr:Bool):Option (I×ab):=
 match it with
 |.ptr r 0=>match h.get r,isStr with
  |some (.pn s pos),true=>
   (match s with
   |[]=>some (.aJ [.bool false],h)
   |s=>let(c,w):=AP s
    some (.aJ [.bool true,.int .i64 (Int.ofNat pos),.int .i32 (Int.ofNat c)],h.set r (some (.pn (ih w s) (pos+w)))))
  |some (.mapIter none _ _ _),false=>some (.aJ [.bool false],h)
  |_,_=>none
 |_=>none
def qR(b:Nat):List db->Option db
 |[]=>none
 |e::l=>match Nat.beq e.born b with
  |true=>some e
  |false=>qR b l
def uY:List Nat->Option Nat
 |[]=>none
 |[b]=>some b
 |_::b::l=>uY (b::l)
def qS(h:ab)(it:I):Option I:=
 match it with
 |.ptr r 0=>match h.get r with
  |some (.mapIter (some m) _ seen last)=>match h.get m,uY seen with
   |some (.map es clock),some b=>match Nat.beq clock last with
    |true=>match qR b es with
     |some e=>some (.aJ [e.key,e.val])
     |none=>none
    |false=>none
   |_,_=>none
  |_=>none
 |_=>none
inductive bu where
 |none|act (v:I)|done (v:I)
inductive bk where
 |nrm|exit (id:Nat)|ret|goto (l:Nat)|bK (v:I)
inductive ik where
 |ok (e:bk) (r:aN) (d:List bz) (q:bu) (h:ab)
 |fail (h1:String)
inductive dB where
 |fn (f:Nat)|cS (l:Nat)
abbrev bt:=dB->List I->ab->a7
inductive Acc where
 |env (j:Nat)|j1 (p:hg)|val (v:I)
def c1(m:Nat)(env:List I)(r:aN):Acc->I
 |.env j=>(nth (m-1-j) env).getD .bad
 |.j1 p=>r.get p
 |.val v=>v
def g4(t:Nat):List (Nat×Acc)->Option Acc
 |[]=>none
 |(u,a)::l=>match Nat.beq t u with
  |true=>some a
  |false=>g4 t l
def cl(P:Program)(need:Nat)(loc:List (Nat×Acc)):Operand->Acc
 |.tmp t=>match g4 t loc with
  |some a=>a
  |none=>match Nat.testBit need t with
   |true=>.j1 (fV t)
   |false=>.val .bad
 |.const v=>.val (mr v)
 |.global g=>match Nat.blt g P.globals.size with
  |true=>.val (.ptr g 0)
  |false=>.val .bad
 |.func f=>.val (.fn f [] [])
def qT(f:I)(args:List I)(h:ab):fW:=
 match f with
 |.fn g first aG=>.call g (first++args++aG) h
 |.cS l=>.cS l args h
 |_=>.fail "callVal"
def eS(h:ab)(h1:String):Option I->fW
 |some v=>.val v h
 |none=>.fail h1
def j2(h1:String):Option (I×ab)->fW
 |some (v,h)=>.val v h
 |none=>.fail h1
def oj(h1:String):Option ab->fW
 |some h=>.val (.aJ []) h
 |none=>.fail h1
def kindName:I->String
 |.bad=> "bad" |.bool _=> "bool" |.int _ n=> "int" ++toString n|.str s=> "str" ++toString s.length|.br=> "nilP" |.ptr b o=> "ptr" ++toString b++ "+" ++toString o|.bd=> "nilS" |.slice b o n c=> "slice" ++toString b++ "+" ++toString o++ "," ++toString n++(match c with|.exact k=> "x" ++toString k|.aS _=> "o" |.dead=> "d")
 |.g2=> "nilM" |.map _=> "map" |.eY=> "nilF" |.fn f _ _=> "fn" ++toString f|.cS _=> "yld" |.ea=> "nilI" |.iface t _=> "iface" ++toString t|.agg l=> "agg" ++toString l.length|.aJ l=> "tup" ++toString l.length
def xJ(P:Program)(t:TypeId)(name:String):Option Nat:=
 match P.info? t with
 |some i=>match i.methods.find? (·.name==name) with
  |some m=>match m.path.isEmpty,m.func,P.underlying t with
   |true,some (f,true),some (.pointer _)=>some f
   |true,some (f,false),some (.pointer _)=>none
   |true,some (f,false),some _=>some f
   |_,_,_=>none
  |none=>none
 |none=>none
def g5(P:Program)(b:Builtin)(ats:Array TypeId)(vs:List I)(h:ab):fW:=
 match b with
 |.recover=>.qO
 |.min=>match vs with
  |x::l=>eS h "min" (mu uU x l)
  |[]=>.fail "min"
 |.max=>match vs with
  |x::l=>eS h "max" (mu pr x l)
  |[]=>.fail "max"
 |b=>match ats[0]?,vs with
  |some t,[x]=>match b with
   |.len=>eS h ("len " ++kindName x) (cr P h t x)
   |.cap=>eS h "cap" (sO P t x)
   |.clear=>j2 "clear" (nj P h t x)
   |.unsafeSliceData=>match x with
    |.bd=>.val .br h
    |.slice b off n (.exact c)=>if c=0 then .fail "SliceData" else .val (.ptr b off) h
    |.slice b off n (.aS _)=>if n=0 then .fail "SliceData" else .val (.ptr b off) h
    |_=>.fail "SliceData"
   |_=>.fail "builtin"
  |some t,[x,y]=>match b with
   |.append=>j2 ("append " ++kindName x++ " " ++kindName y) (eh P h t ats[1]? x y)
   |.copy=>j2 "copy" (sP P h t x y)
   |.delete=>j2 "delete" (nu P h t x y)
   |.unsafeString=>j2 "usString" (nk P h t x y)
   |_=>.fail "builtin"
  |_,_=>.fail "builtin"
def e8(P:Program)(src dst:TypeId)(x:I)(h:ab):fW:=
 match P.underlying src,P.underlying dst,x with
 |some (.int _),some (.int k),.int _ n=>.val (.int k (k.wrap n)) h
 |some (.int _),some .string,.int _ n=>.val (.str (Utf8.encode n).data.toList) h
 |some .string,some .string,.str s=>.val (.str s) h
 |some .string,some (.slice e),.str s=>match P.underlying e with
  |some (.int .u8)=>.val (.slice h.n 0 s.length (.aS 1)) (h.push (.cells (cI s) e .aS 0 0))
  |_=>.fail "convert to runes"
 |some (.slice e),some .string,v=>match P.underlying e,v with
  |some (.int .u8),.bd=>.val (.str []) h
  |some (.int .u8),.slice b off n .dead=>if n=0 then .val (.str []) h else .fail "convert dead"
  |some (.int .u8),.slice b off n _=>match loadCells h b off n with
   |some cs=>match lM cs with
    |some bs=>.val (.str bs) h
    |none=>.fail "convert bytes"
   |none=>.fail "convert bytes"
  |_,_=>.fail "convert slice to string"
 |some (.pointer u),some .unsafePointer,.ptr b off=>match h.get b,cY P u with
  |some (.cells cs _ _ _ _),some (_+1)=>if Nat.blt off cs.length then .val (.ptr b off) h else .fail "convert pointer"
  |_,_=>.fail "convert pointer"
 |some .unsafePointer,some (.pointer u),.ptr b off=>match h.get b,cY P u with
  |some (.cells cs el .own _ _),some (_+1)=>if liesAt P P.depth el (cs.length/P.cellsOf el) off u 1 then .val (.ptr b off) h else .fail "convert from pointer"
  |_,_=>.fail "convert from pointer"
 |_,_,v=>.fail ("convert " ++kindName v)
def cj(P:Program)(o:Oper)(g:Operand->I)(h:ab):fW:=
 match o.op with
 |.move x|.assign x=>.val (g x) h
 |.pick c a b=>match g c with
  |.bool true=>.val (g a) h
  |.bool false=>.val (g b) h
  |_=>.fail "pick"
 |.alloc e=>match dt P e with
  |some z=>match newRow h e z.cells with
   |some (b,ao)=>.val (.ptr b 0) ao
   |none=>.fail "alloc"
  |none=>.fail "alloc"
 |.box e x=>match newRow h e (g x).cells with
  |some (b,ao)=>.val (.ptr b 0) ao
  |none=>.fail "box"
 |.build t parts=>match dt P t with
  |some z=>match P.underlying t with
   |some (.struct b0)=>match b0.toList.all (λf=>(cY P f.type).isSome),iz (λi=>(b0[i]?).map λf=>(f.offset,P.cellsOf f.type)) z.cells (parts.toList.map λp=>(p.1,g p.2)) with
    |true,some cs=>.val (.agg cs) h
    |_,_=>.fail "build"
   |some (.array _ e)=>match cY P e with
    |some sz=>match iz (λi=>some (i*sz,sz)) z.cells (parts.toList.map λp=>(p.1,g p.2)) with
     |some cs=>.val (.agg cs) h
     |none=>.fail "build array"
    |none=>.fail "build"
   |_=>.fail "build"
  |none=>.fail "build"
 |.buildSlice t len parts=>match P.underlying t with
  |some (.slice e)=>match cY P e,dt P e with
   |some sz,some z=>match Nat.ble (len*sz) 16777216&&Nat.beq z.cells.length sz,iz (λi=>some (i*sz,sz)) (if len*sz=0 then[] else ew len z.cells) (parts.toList.map λp=>(p.1,g p.2)) with
    |true,some cs=>match newRow h e cs with
     |some (b,ao)=>.val (.slice b 0 len (.exact len)) ao
     |none=>.fail "buildSlice"
    |_,_=>.fail "buildSlice"
   |_,_=>.fail "buildSlice"
  |_=>.fail "buildSlice"
 |.insert t m k v=>oj "insert" (sQ P h t (g m) (g k) (g v))
 |.load t a=>match g a with
  |.ptr b off=>match oh P t,cY P t with
   |some true,some n=>match loadCells h b off n with
    |some cs=>.val (.agg cs) h
    |none=>.fail ("load agg " ++toString b++ "+" ++toString off)
   |some false,_=>eS h ("load " ++toString b++ "+" ++toString off) (aB h b off)
   |_,_=>.fail "load"
  |v=>.fail ("load of " ++kindName v)
 |.store t a v=>match g a with
  |.ptr b off=>match g v,cY P t with
   |.bad,_=>.fail "store bad"
   |v,some n=>match Nat.beq v.cells.length n with
    |true=>oj "store" (storeCells h b off v.cells)
    |false=>.fail "store size"
   |_,none=>.fail "store"
  |_=>.fail "store"
 |.ready _|.waits _=>.fail "ready"
 |.nilCheck x=>match g x with
  |.ptr b o=>.val (.ptr b o) h
  |.slice b o n c=>.val (.slice b o n c) h
  |.fn f a b=>.val (.fn f a b) h
  |.iface t v=>.val (.iface t v) h
  |_=>.fail "nilCheck"
 |.binOp op t x y _=>eS h ("binOp " ++kindName (g x)++ " " ++kindName (g y)) (e1 P h op t x y (g x) (g y))
 |.unOp op _ x=>match op,g x with
  |.not,.bool b=>.val (.bool (!b)) h
  |.neg,.int k n=>.val (.int k (k.wrap (0-n))) h
  |.xor,.int k n=>eS h "unOp" (arith .xor k (if k.signed then-1 else k.max) n)
  |_,_=>.fail "unOp"
 |.convert src dst x=>e8 P src dst (g x) h
 |.sliceToArrayPointer .. =>.fail "sliceToArrayPointer"
 |.makeInterface t x=>match P.underlying t with
  |some (.interface _)=>.fail "makeInterface"
  |some _=>.val (.iface t (g x)) h
  |none=>.fail "makeInterface"
 |.makeFunc fn first aG=>match fn with
  |.func f=>.val (.fn f (first.toList.map g) (aG.toList.map g)) h
  |_=>.fail "makeFunc"
 |.makeMap t r=>match r with
  |none=>.val (.map h.n) (h.push (.map [] 0))
  |some x=>match P.underlying t,g x with
   |some (.map _ _),.int _ _=>.val (.map h.n) (h.push (.map [] 0))
   |_,_=>.fail "makeMap"
 |.makeChan .. =>.fail "makeChan"
 |.makeSlice t l c=>match P.underlying t,eb (g l),eb (g c) with
  |some (.slice e),some l,some c=>match P.info? e,dt P e with
   |some i,some z=>if l<=c&&Nat.ble (c*(i.bytes+1)) 1099511627776&&Nat.beq z.cells.length i.size then(match newRow h e (if c*i.size=0 then[] else ew c z.cells) with
    |some (b,ao)=>.val (.slice b 0 l (.exact c)) ao
    |none=>.fail "makeSlice") else .fail "makeSlice bounds"
   |_,_=>.fail "makeSlice"
  |_,_,_=>.fail "makeSlice"
 |.slice t x aY ag mx=>eS h ("slice " ++kindName (g x)++((aY.map λo=>kindName (g o)).getD "-")++((ag.map λo=>kindName (g o)).getD "-")) (ec P h t (g x) (aY.map g) (ag.map g) (mx.map g))
 |.fieldAddr s x f=>match P.underlying s,g x with
  |some (.struct b0),.ptr b off=>match b0[f]? with
   |some fd=>match cY P fd.type with
    |some 0=>.fail "fieldAddr 0"
    |some _=>.val (.ptr b (off+fd.offset)) h
    |none=>.fail "fieldAddr"
   |none=>.fail "fieldAddr"
  |_,v=>.fail ("fieldAddr " ++kindName v)
 |.field t x f=>match P.underlying t,g x with
  |some (.struct b0),.agg cs=>match b0[f]? with
   |some fd=>eS h "field" (hP P fd.type cs fd.offset)
   |none=>.fail "field"
  |_,_=>.fail "field"
 |.indexAddr t x i=>match P.underlying t,g x,eb (g i) with
  |some (.array n e),.ptr b off,some i=>match cY P e with
   |some sz=>if i<n then .val (.ptr b (off+i*sz)) h else .fail "indexAddr range"
   |none=>.fail "indexAddr"
  |some (.slice e),.slice b off n c,some i=>match cY P e with
   |some sz=>if i<n then .val (.ptr b (off+i*sz)) h else .fail "indexAddr range"
   |none=>.fail "indexAddr"
  |_,v,w=>.fail ("indexAddr " ++kindName v++kindName (g i))
 |.index t x i=>match P.underlying t,g x,eb (g i) with
  |some (.array n e),.agg cs,some i=>match cY P e with
   |some sz=>if i<n then eS h "index" (hP P e cs (i*sz)) else .fail "index range"
   |none=>.fail "index"
  |some .string,.str s,some i=>match nth i s with
   |some b=>.val (.int .u8 (Int.ofNat b.toNat)) h
   |none=>.fail "index str range"
  |_,_,_=>.fail "index"
 |.lookup t x i ok=>eS h "lookup" (gv P h t (g x) (g i) ok)
 |.mapUpdate t m k v=>oj "mapUpdate" (sQ P h t (g m) (g k) (g v))
 |.mapEntry t m k=>j2 "mapEntry" (nr P h t (g m) (g k))
 |.entryStore t m s v=>oj "entryStore" (nt h (g m) (g s) (g v))
 |.range t x=>match P.underlying t,g x with
  |some .string,.str s=>.val (.ptr h.n 0) (h.push (.pn s 0))
  |some (.map _ _),.g2=>.val (.ptr h.n 0) (h.push (.mapIter none 0 [] 0))
  |some (.map _ _),.map m=>match h.get m with
   |some (.map _ c)=>.val (.ptr h.n 0) (h.push (.mapIter (some m) c [] c))
   |_=>.fail "range"
  |_,_=>.fail "range"
 |.next it isStr=>j2 "next" (xI h (g it) isStr)
 |.entry it=>eS h "entry" (qS h (g it))
 |.typeAssert x xT as ok=>match P.underlying as,g x with
  |some (.interface _),_=>.fail "typeAssert to an interface"
  |some _,.ea=>if ok then(match dt P as with|some z=>.val (.aJ [z,.bool false]) h|none=>.fail "typeAssert") else .fail "typeAssert nil"
  |some _,.iface t v=>if t=as then .val (if ok then .aJ [v,.bool true] else v) h else
   if ok then(match dt P as with|some z=>.val (.aJ [z,.bool false]) h|none=>.fail "typeAssert") else .fail "typeAssert fails"
  |_,_=>.fail "typeAssert"
 |.extract t i=>match g t with
  |.aJ vs=>eS h "extract" (nth i vs)
  |_=>.fail "extract"
 |.call c=>match c.callee with
  |.value f=>qT (g f) (c.args.toList.map g) h
  |.invoke r name=>match g r with
   |.iface t v=>match xJ P t name with
    |some f=>.call f (v::c.args.toList.map g) h
    |none=>.fail ("invoke " ++name)
   |_=>.fail ("invoke " ++name)
  |.builtin b=>g5 P b c.argTypes (c.args.toList.map g) h
 |.go _=>.fail "go"
 |.defer c=>match c.callee with
  |.value f=>match g f with
   |.fn k first aG=>.j0 (.call k (first++c.args.toList.map g++aG))
   |_=>.fail "defer"
  |_=>.fail "defer"
 |.panic x=>match g x with
  |.iface t v=>.bK (.iface t v) h
  |_=>.fail "panic"
 |.send .. |.recv .. |.select .. =>.fail "comm"
structure Step where
 guard:Option (Acc×Bool)
 o:Oper
 loc:List (Nat×Acc)
 m:Nat
structure E5 where
 steps:List Step
 loc:List (Nat×Acc)
def il(P:Program)(need:Nat)(ops:Array Oper)(loc:List (Nat×Acc))(o:Oper):Option (Acc×Bool):=
 match o.guard with
 |none=>none
 |some (j,b)=>match(ops[j]?).bind (·.dst) with
  |some t=>some (cl P need loc (.tmp t),b)
  |none=>some (.val .bad,b)
def aliasOf(o:Oper):Option (Nat×Operand):=
 match o.guard,o.dst,o.op with
 |none,some t,.move x=>some (t,x)
 |none,some t,.assign x=>some (t,x)
 |_,_,_=>none
def gg(o:Oper)(m:Nat)(loc:List (Nat×Acc)):List (Nat×Acc):=
 match o.dst with
 |some t=>(t,.env m)::loc
 |none=>loc
def sR(P:Program)(need:Nat)(ops:Array Oper):List Oper->List (Nat×Acc)->List Step->Nat->E5
 |[],loc,st,_=>⟨st.reverse,loc⟩
 |o::rest,loc,st,m=>
  match aliasOf o with
  |some (t,x)=>sR P need ops rest ((t,cl P need loc x)::loc) st m
  |none=>sR P need ops rest (gg o m loc) (⟨il P need ops loc o,o,loc,m⟩::st) (m+1)
def nv(P:Program)(need:Nat)(ops:Array Oper):E5:=sR P need ops ops.toList [] [] 0
inductive k3 where
 |ok (env:List I) (d:List bz) (q:bu) (h:ab)
 |bK (v:I) (d:List bz) (q:bu) (h:ab)
 |fail (h1:String)
inductive uZ where
 |ok (v:I) (d:List bz) (q:bu) (h:ab)
 |bK (v:I) (d:List bz) (q:bu) (h:ab)
 |fail (h1:String)
def dC:Option (I×Bool)->Option Bool
 |none=>some true
 |some (.bool c,b)=>some (c==b)
 |some (.aJ [],_)=>some false
 |_=>none
def u0(d:List bz)(q:bu):a7->uZ
 |.ret v h=>.ok v d q h
 |.bK v h=>.bK v d q h
 |.fail w=>.fail w
def dc(P:Program)(inR:Bool)(call:dB->List I->ab->a7)(gd:Option (I×Bool))(o:Oper)(g:Operand->I)(d:List bz)(q:bu)(h:ab):uZ:=
 match dC gd with
 |none=>.fail ("guard " ++o.pos)
 |some false=>.ok (.aJ []) d q h
 |some true=>
  match cj P o g h with
  |.val v ao=>.ok v d q ao
  |.bK v ao=>.bK v d q ao
  |.call f args ao=>u0 d q (call (.fn f) args ao)
  |.cS l args ao=>u0 d q (call (.cS l) args ao)
  |.j0 x=>if inR then .fail "defer in a round" else .ok (.aJ []) (x::d) q h
  |.qO=>if inR then .fail "recover in a round" else match q with
   |.none=>.ok .ea d .none h
   |.done v=>.ok .ea d (.done v) h
   |.act v=>.ok v d (.done v) h
  |.fail w=>.fail (w++ " at " ++o.pos)
def hh(P:Program)(need:Nat)(inR:Bool)(call:dB->List I->ab->a7)(r:aN):List Step->List I->List bz->bu->ab->k3
 |[],env,d,q,h=>.ok env d q h
 |s::rest,env,d,q,h=>
  match dc P inR call (match s.guard with|none=>none|some (a,b)=>some (c1 s.m env r a,b)) s.o (λx=>c1 s.m env r (cl P need s.loc x)) d q h with
  |.ok v aW a0 ao=>hh P need inR call r rest (v::env) aW a0 ao
  |.bK v aW a0 ao=>.bK v aW a0 ao
  |.fail w=>.fail w
def c7.beq:c7->c7->Bool
 |.exact a,.exact b=>Nat.beq a b
 |.aS a,.aS b=>Nat.beq a b
 |.dead,.dead=>true
 |_,_=>false
mutual
def I.beq:I->I->Bool
 |.bool a,.bool b=>a==b
 |.int j a,.int k b=>decide (j=k)&&cW a b
 |.str a,.str b=>dv a b
 |.br,.br=>true
 |.ptr a i,.ptr b j=>Nat.beq a b&&Nat.beq i j
 |.bd,.bd=>true
 |.slice a i n c,.slice b j m d=>Nat.beq a b&&Nat.beq i j&&Nat.beq n m&&c.beq d
 |.g2,.g2=>true
 |.map a,.map b=>Nat.beq a b
 |.eY,.eY=>true
 |.fn f a b,.fn g c d=>Nat.beq f g&&I.lN a c&&I.lN b d
 |.cS a,.cS b=>Nat.beq a b
 |.ea,.ea=>true
 |.iface t v,.iface u w=>Nat.beq t u&&I.beq v w
 |.agg a,.agg b=>I.lN a b
 |.aJ a,.aJ b=>I.lN a b
 |_,_=>false
def I.lN:List I->List I->Bool
 |[],[]=>true
 |a::as,b::bs=>I.beq a b&&I.lN as bs
 |_,_=>false
end
inductive L5 where
 |pure|alloc|du
def kindOf(P:Program):Op->L5
 |.move _|.assign _|.pick .. |.build .. |.load .. |.nilCheck _|.binOp .. |.unOp .. |.makeInterface .. |.makeFunc .. |.slice .. |.fieldAddr .. |.field .. |.indexAddr .. |.index .. |.lookup .. |.typeAssert .. |.extract .. =>.pure
 |.convert _ d _=>match P.underlying d with
  |some (.slice _)=>.du
  |_=>.pure
 |.call c=>match c.callee with
  |.builtin .len|.builtin .cap|.builtin .min|.builtin .max|.builtin .unsafeSliceData=>.pure
  |_=>.du
 |.alloc _|.box .. |.buildSlice .. |.makeSlice .. =>.alloc
 |.makeMap _ none=>.alloc
 |_=>.du
def iO(P:Program)(o:Op)(g:Operand->I)(b:Nat):Option (I×cX):=
 match o with
 |.alloc e=>match dt P e with
  |some z=>match z.cells.all I.cw with
   |true=>some (.ptr b 0,.cells z.cells e .own 0 0)
   |false=>none
  |none=>none
 |.box e x=>match(g x).cells.all I.cw with
  |true=>some (.ptr b 0,.cells (g x).cells e .own 0 0)
  |false=>none
 |.buildSlice t len parts=>match P.underlying t with
  |some (.slice e)=>match cY P e,dt P e with
   |some sz,some z=>match Nat.ble (len*sz) 16777216&&Nat.beq z.cells.length sz,iz (λi=>some (i*sz,sz)) (if len*sz=0 then[] else ew len z.cells) (parts.toList.map λp=>(p.1,g p.2)) with
    |true,some cs=>match cs.all I.cw with
     |true=>some (.slice b 0 len (.exact len),.cells cs e .own 0 0)
     |false=>none
    |_,_=>none
   |_,_=>none
  |_=>none
 |.makeSlice t l c=>match P.underlying t,eb (g l),eb (g c) with
  |some (.slice e),some l,some c=>match P.info? e,dt P e with
   |some i,some z=>match decide (l<=c)&&Nat.ble (c*(i.bytes+1)) 1099511627776&&Nat.beq z.cells.length i.size,(if c*i.size=0 then[] else ew c z.cells) with
    |true,cs=>match cs.all I.cw with
     |true=>some (.slice b 0 l (.exact c),.cells cs e .own 0 0)
     |false=>none
    |_,_=>none
   |_,_=>none
  |_,_,_=>none
 |.makeMap _ none=>some (.map b,.map [] 0)
 |_=>none
structure DStep where
 i:Nat
 o:Oper
 ed:Nat
 loc:List (Nat×Acc)
def u1(fy:List Nat)(n:Nat)(o:Oper):Nat:=
 o.after.foldl (λs e=>match Region.binds .any e with
  |true=>s|||1<<<e.on|||(nth (n-1-e.on) fy).getD 0
  |false=>s) 0
def ei:List Oper->Nat->List (Nat×Acc)->List Nat->List DStep
 |[],_,_,_=>[]
 |o::l,n,loc,fy=>
  let m:=u1 fy n o
  ⟨n,o,m,loc⟩::ei l (n+1) (gg o n loc) (m::fy)
def hQ:List Oper->Nat->List (Nat×Acc)->List (Nat×Acc)
 |[],_,loc=>loc
 |o::l,n,loc=>hQ l (n+1) (gg o n loc)
def fN(P:Program)(need:Nat)(ops:Array Oper)(r:aN)(n:Nat)(env:List I)(s:DStep):Option (I×Bool):=
 match il P need ops s.loc s.o with
 |none=>none
 |some (a,b)=>some (c1 n env r a,b)
inductive AQ where
 |ok (env:List I) (d:List bz) (q:bu) (h:ab) (aX:List (Nat×Nat×ab))
 |bK (v:I) (env:List I) (d:List bz) (q:bu) (h:ab) (aX:List (Nat×Nat×ab))
 |fail (h1:String)
def fg(P:Program)(need:Nat)(inR:Bool)(call:dB->List I->ab->a7)(ops:Array Oper)(r:aN)(cm:Nat):List DStep->List I->List bz->bu->ab->List (Nat×Nat×ab)->AQ
 |[],env,d,q,h,aX=>.ok env d q h aX
 |s::rest,env,d,q,h,aX=>
  let gd:=fN P need ops r s.i env s
  let g:=λx=>c1 s.i env r (cl P need s.loc x)
  match kindOf P s.o.op with
  |.alloc=>match dC gd with
   |none=>.fail ("guard " ++s.o.pos)
   |some false=>fg P need inR call ops r cm rest (.aJ []::env) d q h aX
   |some true=>match iO P s.o.op g (cm+s.i) with
    |some (v,o)=>fg P need inR call ops r cm rest (v::env) d q (h.set (cm+s.i) (some o)) aX
    |none=>.fail ("alloc " ++s.o.pos)
  |.pure=>match dc P inR call gd s.o g d q h with
   |.ok v _ _ _=>fg P need inR call ops r cm rest (v::env) d q h aX
   |.bK _ _ _ _=>.fail ("pure " ++s.o.pos)
   |.fail w=>.fail w
  |.du=>
   match(match aX with|[]=>true|(e,_,_)::_=>Nat.testBit s.ed e) with
   |false=>.fail ("order " ++s.o.pos)
   |true=>match dc P inR call gd s.o g d q h with
    |.ok v aW a0 ao=>fg P need inR call ops r cm rest (v::env) aW a0 ao ((s.i,s.ed,h)::aX)
    |.bK v aW a0 ao=>match rest.all (λa6=>Nat.testBit a6.ed s.i) with
     |true=>.bK v env aW a0 ao ((s.i,s.ed,h)::aX)
     |false=>.fail ("panic " ++s.o.pos)
    |.fail w=>.fail w
def kA(P:Program)(need:Nat)(ops:Array Oper)(r:aN)(n:Nat)(env:List I)(s:DStep)(v:I)(h:ab):Bool:=
 match dC (fN P need ops r n env s) with
 |none=>false
 |some false=>true
 |some true=>match cj P s.o (λx=>c1 n env r (cl P need s.loc x)) h with
  |.val v' _=>I.beq v' v
  |_=>false
def jB(P:Program)(need:Nat)(ops:Array Oper)(r:aN)(n:Nat)(env:List I)(s:DStep)(v:I):Option Nat->ab->List (Nat×Nat×ab)->Bool
 |df,h,aX=>
  (match(match df with|none=>false|some e=>Nat.testBit s.ed e)||(match aX with|[]=>false|(_,m,_)::_=>Nat.testBit m s.i) with
   |true=>true
   |false=>kA P need ops r n env s v h)&&
  (match aX with
   |[]=>true
   |(e,_,ao)::rest=>jB P need ops r n env s v (some e) ao rest)
def j3(P:Program)(need:Nat)(ops:Array Oper)(r:aN)(n:Nat)(env:List I)(last:Option Nat)(h:ab)(aX:List (Nat×Nat×ab)):List DStep->Bool
 |[]=>true
 |s::rest=>(match Nat.blt s.i n,kindOf P s.o.op with
   |true,.pure=>jB P need ops r n env s ((nth (n-1-s.i) env).getD .bad) last h aX
   |_,_=>true)&&j3 P need ops r n env last h aX rest
def qU(P:Program)(need:Nat)(inR:Bool)(call:dB->List I->ab->a7)(ops:Array Oper)(r:aN)(d:List bz)(q:bu)(h:ab):k3:=
 let steps:=ei ops.toList 0 [] []
 match fg P need inR call ops r h.n steps [] d q ⟨h.t,h.n+ops.size⟩ [] with
 |.ok env aW a0 ao aX=>match j3 P need ops r env.length env none ao aX steps with
  |true=>.ok env aW a0 ao
  |false=>.fail "orders"
 |.bK v env aW a0 ao aX=>match aX with
  |(e,_,h0)::rest=>match j3 P need ops r env.length env (some e) h0 rest steps with
   |true=>.bK v aW a0 ao
   |false=>.fail "orders"
  |[]=>.fail "orders"
 |.fail w=>.fail w
def nw(need:Nat)(m:Nat)(env:List I)(eM:aN):List (Nat×Acc)->aN->aN
 |[],r=>r
 |(t,a)::l,r=>
  let r':=nw need m env eM l r
  match Nat.testBit need t with
  |true=>r'.set (fV t) (c1 m env eM a)
  |false=>r'
def sS:List (Nat×Acc)->aN->aN
 |[],r=>r
 |(t,_)::l,r=>(sS l r).set (fV t) .bad
def k4(need:Nat)(r:aN)(loc:List (Nat×Acc)):k3->ik
 |.ok env d q h=>.ok .nrm (nw need env.length env r loc r) d q h
 |.bK v d q h=>.ok (.bK v) (sS loc r) d q h
 |.fail w=>.fail w
def om(x:ik)(f:aN->List bz->bu->ab->ik):ik:=
 match x with
 |.ok .nrm r d q h=>f r d q h
 |x=>x
def nx(f:aN->List bz->bu->ab->ik):Nat->aN->List bz->bu->ab->ik
 |0,_,_,_,_=>.fail "loop fuel"
 |n+1,r,d,q,h=>om (f r d q h) (nx f n)
def mw(rd:Option Nat)(n:Nat):Nat:=match rd with
 |none=>n+1
 |some _=>n
def u2(need:Nat)(rd:Option Nat)(r:aN)(ps:List Nat)(as bV:Code)(d:List bz)(h:ab):Option (List bz×ab):=
 match rd with
 |none=>some (.collected h.n::d,(h.push (.defrd (some []))).push (.loop .ready none need r ps as bV h.n))
 |some AR=>match h.get AR with
  |some (.loop _ _ _ _ _ _ _ dM)=>some (d,h.push (.loop .ready none need r ps as bV dM))
  |_=>none
def lO(l:Nat)(r:aN)(d:List bz)(q:bu):a7->ik
 |.ret _ h=>match h.get l with
  |some (.loop st eZ er rg ps as bV dM)=>match st with
   |.busy=>.fail "rangeFunc: busy"
   |_=>match eZ with
    |none=>.ok .nrm r d q (h.set l (some (.loop .exhausted eZ er rg ps as bV dM)))
    |some .ret=>.ok .ret r d q (h.set l (some (.loop .exhausted eZ er rg ps as bV dM)))
    |some (.exit id)=>.ok (.exit id) r d q (h.set l (some (.loop .exhausted eZ er rg ps as bV dM)))
    |_=>.fail "rangeFunc: goto"
  |_=>.fail "rangeFunc: loop gone"
 |.bK v h=>.ok (.bK v) r d q h
 |.fail w=>.fail w
def c2(P:Program)(need:Nat)(rd:Option Nat)(call:dB->List I->ab->a7):Code->aN->List bz->bu->ab->ik
 |.skip,r,d,q,h=>.ok .nrm r d q h
 |.region id ops draw,r,d,q,h=>
  match draw with
  |false=>
   let pl:=nv P need ops
   k4 need r pl.loc (hh P need rd.isSome call r pl.steps [] d q h)
  |true=>k4 need r (hQ ops.toList 0 []) (qU P need rd.isSome call ops r d q h)
 |.seq a b,r,d,q,h=>om (c2 P need rd call a r d q h) (c2 P need rd call b)
 |.cond c a b,r,d,q,h=>match c1 0 [] r (cl P need [] c) with
  |.bool true=>c2 P need rd call a r d q h
  |.bool false=>c2 P need rd call b r d q h
  |_=>.fail "cond"
 |.block id b,r,d,q,h=>match c2 P need rd call b r d q h with
  |.ok (.exit i) r' aW a0 ao=>if i=id then .ok .nrm r' aW a0 ao else .ok (.exit i) r' aW a0 ao
  |x=>x
 |.loop b,r,d,q,h=>nx (c2 P need rd call b) 100000 r d q h
 |.exit id,r,d,q,h=>.ok (.exit id) r d q h
 |.ret,r,d,q,h=>.ok .ret r d q h
 |.label _,r,d,q,h=>.ok .nrm r d q h
 |.goto l,r,d,q,h=>.fail "goto"
 |.scope b,r,d,q,h=>c2 P need rd call b r d q h
 |.rangeFunc f params assign body,r,d,q,h=>
  match u2 need rd r params.toList assign body d h with
  |none=>.fail "rangeFunc"
  |some (aW,aa)=>
   match qT (c1 0 [] r (cl P need [] f)) [.cS (mw rd h.n)] aa with
   |.call g args ad=>lO (mw rd h.n) r aW q (call (.fn g) args ad)
   |.cS cM args ad=>lO (mw rd h.n) r aW q (call (.cS cM) args ad)
   |_=>.fail "rangeFunc: no function"
 |.refuse w,_,_,_,_=>.fail ("refuse " ++w)
def bit(t:Nat):Nat:=1<<<t
def E6:List Oper->Nat->Nat->Nat
 |[],_,acc=>acc
 |o::l,written,acc=>
  let acc:=o.op.operands.foldl (λa x=>match x with
   |.tmp t=>if Nat.testBit written t then a else a|||bit t
   |_=>a) acc
  E6 l (match o.dst with|some t=>written|||bit t|none=>written) acc
def E7:Operand->Nat
 |.tmp t=>bit t
 |_=>0
def pv:Code->Nat->Nat
 |.region _ ops _,acc=>E6 ops.toList 0 acc
 |.seq a b,acc=>pv b (pv a acc)
 |.cond c a b,acc=>pv b (pv a (acc|||E7 c))
 |.block _ b,acc|.loop b,acc|.scope b,acc=>pv b acc
 |.rangeFunc f ps a b,acc=>pv b (pv a (acc|||E7 f|||ps.foldl (λa t=>a|||bit t) 0))
 |_,acc=>acc
def c8(fn:Func):Nat:=
 let rs:=fn.results.foldl (λa r=>match r with|.tmp t=>a|||bit t|.cell t _=>a|||bit t) 0
 match fn.body with
 |some c=>pv c rs
 |none=>rs
def lP:Nat->List I->aN->aN
 |_,[],r=>r
 |i,v::l,r=>lP (i+1) l (r.set (fV i) v)
def pw(P:Program)(need:Nat)(r:aN)(h:ab)(x:ResultVar):Option I:=
 match x with
 |.tmp t=>match Nat.testBit need t with
  |true=>some (r.get (fV t))
  |false=>none
 |.cell t ty=>match Nat.testBit need t with
  |true=>match r.get (fV t),oh P ty,cY P ty with
   |.ptr b off,some true,some n=>(match loadCells h b off n with|some cs=>some (.agg cs)|none=>none)
   |.ptr b off,some false,_=>aB h b off
   |_,_,_=>none
  |false=>none
def ny(f:ResultVar->Option I):List ResultVar->Option (List I)
 |[]=>some []
 |x::l=>match f x,ny f l with
  |some v,some vs=>some (v::vs)
  |_,_=>none
def oo(P:Program)(need:Nat)(fn:Func)(r:aN)(h:ab):Option I:=
 match ny (pw P need r h) fn.results.toList with
 |some [v]=>some v
 |some vs=>some (.aJ vs)
 |none=>none
def my(c:Nat):List UInt8->Nat->Int
 |[],_=>-1
 |b::l,i=>match Nat.beq b.toNat c with
  |true=>Int.ofNat i
  |false=>my c l (i+1)
def px(P:Program)(fn:Func)(name:String)(args:List I)(h:ab):Option (I×ab):=
 match args with
 |[.int .i64 (.ofNat n)]=>if name= "internal/bytealg.MakeNoZero" then
    (match fn.resultTypes[0]? with
    |some t=>match P.underlying t with
     |some (.slice e)=>match Nat.ble n 1099511627776 with
      |true=>some (.slice h.n 0 n (.aS 1),h.push (.cells (List.replicate n .bad) e .aS 0 0))
      |false=>none
     |_=>none
    |none=>none) else none
 |[x]=>if name= "internal/abi.NoEscape" then some (x,h) else
  if name= "maps.clone" then(match x with
   |.iface t (.map r)=>match h.get r with
    |some (.map es c)=>some (.iface t (.map h.n),h.push (.map es c))
    |_=>none
   |_=>none) else none
 |[.str s,.int .u8 (.ofNat c)]=>if name= "internal/bytealg.IndexByteString" then
    (match Nat.blt c 256 with
    |true=>some (.int .i64 (my c s 0),h)
    |false=>none) else none
 |_=>none
def sU:Option I->bu
 |some v=>.act v
 |none=>.none
def u3(q:bu)(dN:Option I):Option I:=match q with
 |.done _=>none
 |_=>dN
def k5(P:Program)(call:dB->List I->ab->a7)(fn:Func)(args:List I)(q:bu)(h:ab):ik:=
 match fn.body with
 |some c=>match Nat.ble args.length fn.ntmps with
  |true=>c2 P (c8 fn) none call c (lP 0 args .leaf) [] q h
  |false=>.fail "too many arguments"
 |none=>.fail "no body"
def E8(P:Program)(fn:Func)(dN:Option I):ik->Option (Option I×ab)
 |.ok e r d q h=>match(match e with|.nrm=>true|.ret=>true|_=>false),d,oo P (c8 fn) fn r h with
  |true,[],some _=>some (u3 q dN,h)
  |_,_,_=>none
 |.fail _=>none
def h3(P:Program)(call:dB->List I->ab->a7)(need:Nat)(fn:Func)(r:aN):Nat->Option I->List bz->ab->a7
 |0,_,_,_=>.fail "defers"
 |k+1,dN,ds,h=>match ds with
  |[]=>match dN with
   |none=>match oo P need fn r h with
    |some v=>.ret v h
    |none=>.fail "results"
   |some v=>.bK v h
  |.collected b::ds=>match h.get b with
   |some (.defrd (some cs))=>h3 P call need fn r k dN (cs++ds) (h.set b (some (.defrd none)))
   |_=>.fail "collected"
  |.call g args::ds=>
   match P.funcs[g]? with
   |some gw=>match E8 P gw dN (k5 P call gw args (sU dN) h) with
    |some (L6,ao)=>h3 P call need fn r k L6 ds ao
    |none=>.fail "deferred call"
   |none=>.fail "deferred"
def nz(P:Program)(call:dB->List I->ab->a7)(fn:Func):ik->a7
 |.ok .nrm r d _ h=>h3 P call (c8 fn) fn r 100 none d h
 |.ok .ret r d _ h=>h3 P call (c8 fn) fn r 100 none d h
 |.ok (.bK v) r d _ h=>h3 P call (c8 fn) fn r 100 (some v) d h
 |.ok _ _ _ _ _=>.fail "exit out of a function"
 |.fail w=>.fail (w++ " < " ++fn.name)
def oq(P:Program)(call:dB->List I->ab->a7)(f:Nat)(args:List I)(h:ab):a7:=
 match P.funcs[f]? with
 |none=>.fail "no function"
 |some fn=>
  match fn.body with
  |none=>match px P fn fn.name args h with
   |some (v,ao)=>.ret v ao
   |none=>.fail ("extern " ++fn.name)
  |some _=>nz P call fn (k5 P call fn args .none h)
def sV:List Nat->List I->aN->Option aN
 |[],[],r=>some r
 |t::cu,v::vs,r=>sV cu vs (r.set (fV t) v)
 |_,_,_=>none
def u4(l:Nat):ik->a7
 |.ok e _ [] _ h=>match h.get l with
  |some (.loop .busy _ er rg ps as bV dM)=>match e with
   |.nrm=>.ret (.bool true) (h.set l (some (.loop .ready none er rg ps as bV dM)))
   |.ret=>.ret (.bool false) (h.set l (some (.loop .done (some .ret) er rg ps as bV dM)))
   |.exit id=>.ret (.bool false) (h.set l (some (.loop .done (some (.exit id)) er rg ps as bV dM)))
   |.bK v=>.bK v h
   |.goto _=>.fail "goto in a round"
  |_=>.fail "round"
 |.ok .. =>.fail "round defers"
 |.fail w=>.fail (w++ " < round")
def AS(P:Program)(call:dB->List I->ab->a7)(l need:Nat)(bV:Code):ik->a7
 |.ok .nrm r [] _ h=>match h.get l with
  |some (.loop .ready eZ er rg ps xK xL dM)=>u4 l (c2 P need (some l) call bV r [] .none (h.set l (some (.loop .busy eZ er rg ps xK xL dM))))
  |_=>.fail "round"
 |.ok .. =>.fail "round assign"
 |.fail w=>.fail w
def qV(P:Program)(call:dB->List I->ab->a7)(l:Nat)(args:List I)(h:ab):a7:=
 match h.get l with
 |some (.loop .ready _ need rg ps as bV _)=>
  match sV ps args rg with
  |none=>.fail "yield: arguments"
  |some eM=>AS P call l need bV (c2 P need (some l) call as eM [] .none h)
 |_=>.fail "yield"
def et(P:Program)(intr:Nat->List I->ab->Option (I×ab)):Nat->dB->List I->ab->a7
 |0,_,_,_=>.fail "depth"
 |n+1,.fn f,args,h=>match intr f args h with
  |some (v,ao)=>.ret v ao
  |none=>oq P (et P intr n) f args h
 |n+1,.cS l,args,h=>qV P (et P intr n) l args h
def py(n:Nat):ab:=⟨.leaf,n⟩
def kB(ops:Array Oper)(o:Oper):List Nat:=
 o.dst.toList++(o.op.operands.toList.filterMap λ|.tmp t=>some t|_=>none)++(match o.guard with|some (j,_)=>((ops[j]?).bind (·.dst)).toList|none=>[])
def mz(o:Oper)(i:Nat):Bool:=o.after.toList.all λe=>!Region.binds .any e||Nat.blt e.on i
def xM(ops:Array Oper)(s:DStep):List DStep->Bool
 |[]=>true
 |a6::l=>(match(match s.o.dst with|some t=>(kB ops a6.o).contains t|none=>false)||(match a6.o.dst with|some t=>(kB ops s.o).contains t|none=>false) with
   |true=>Nat.testBit a6.ed s.i
   |false=>true)&&xM ops s l
def ou(ops:Array Oper):List DStep->Bool
 |[]=>true
 |s::l=>mz s.o s.i&&xM ops s l&&ou ops l
def gx(bx:Nat):Code->Bool
 |.region _ ops draw=>ops.toList.all (λo=>match o.dst with|some t=>Nat.blt t bx|none=>true)&&(!draw||ou ops (ei ops.toList 0 [] []))
 |.seq a b=>gx bx a&&gx bx b
 |.cond _ a b=>gx bx a&&gx bx b
 |.block _ b|.loop b|.scope b=>gx bx b
 |.rangeFunc _ ps a b=>ps.toList.all (λt=>Nat.blt t bx)&&gx bx a&&gx bx b
 |_=>true
end a8
namespace a8
open Go
def hg.num:hg->Nat
 |.here=>0
 |.l p=>2*p.num+1
 |.r p=>2*p.num+2
theorem E9:∀(f n:Nat),n<=f->(uS f n).num=n
 |0,n,h=>by
  obtain rfl:n=0:=by omega
  rfl
 |f+1,0,_=>rfl
 |f+1,m+1,h=>by
  have e:Nat.mod m 2=m %2:=rfl
  have av:Nat.div m 2=m/2:=rfl
  have a3:=E9 f (m/2) (by omega)
  simp only[uS,e,av]
  rcases Nat.mod_two_eq_zero_or_one m with h0|aa
  · simp only[h0,hg.num,a3];omega
  · simp only[aa,hg.num,a3];omega
theorem xN(n:Nat):(fV n).num=n:=E9 n n (Nat.le_refl n)
theorem L7{m n:Nat}(h:fV m=fV n):m=n:=by rw[<-xN m,<-xN n,h]
theorem aN.pz(l:aN)(v:I)(r:aN):aN.AM l v r=.node l v r:=by cases l<;>rfl
theorem aN.pA(l:aN)(v:I)(r:aN):aN.AN l v r=.node l v r:=by cases r<;>rfl
theorem aN.lQ(p:hg):aN.get p .leaf=.bad:=by cases p<;>rfl
theorem aN.u5:∀(p:hg) (v:I) (t:aN),(aN.set p v t).get p=v
 |.here,v,.leaf=>rfl
 |.here,v,.node .. =>rfl
 |.l p,v,.leaf=>by simp only[aN.set,aN.pz,aN.get];exact u5 p v _
 |.l p,v,.node l _ _=>by simp only[aN.set,aN.pz,aN.get];exact u5 p v _
 |.r p,v,.leaf=>by simp only[aN.set,aN.pA,aN.get];exact u5 p v _
 |.r p,v,.node .. =>by simp only[aN.set,aN.pA,aN.get];exact u5 p v _
theorem aN.u6:∀(p q:hg) (v:I) (t:aN),p≠q->(aN.set q v t).get p=t.get p
 |.here,.here,_,_,h=>absurd rfl h
 |.here,.l q,v,.leaf,_=>by simp[aN.set,aN.pz,aN.get]
 |.here,.l q,v,.node ..,_=>by simp[aN.set,aN.pz,aN.get]
 |.here,.r q,v,.leaf,_=>by simp[aN.set,aN.pA,aN.get]
 |.here,.r q,v,.node ..,_=>by simp[aN.set,aN.pA,aN.get]
 |.l p,.here,v,.leaf,_=>by simp[aN.set,aN.get,aN.lQ]
 |.l p,.here,v,.node ..,_=>by simp[aN.set,aN.get]
 |.r p,.here,v,.leaf,_=>by simp[aN.set,aN.get,aN.lQ]
 |.r p,.here,v,.node ..,_=>by simp[aN.set,aN.get]
 |.l p,.l q,v,.leaf,h=>by
  simp only[aN.set,aN.pz,aN.get]
  rw[u6 p q v _ (λe=>h (by rw[e])),aN.lQ]
 |.l p,.l q,v,.node ..,h=>by
  simp only[aN.set,aN.pz,aN.get]
  exact u6 p q v _ (λe=>h (by rw[e]))
 |.r p,.r q,v,.leaf,h=>by
  simp only[aN.set,aN.pA,aN.get]
  rw[u6 p q v _ (λe=>h (by rw[e])),aN.lQ]
 |.r p,.r q,v,.node ..,h=>by
  simp only[aN.set,aN.pA,aN.get]
  exact u6 p q v _ (λe=>h (by rw[e]))
 |.l p,.r q,v,.leaf,_=>by simp[aN.set,aN.pA,aN.get,aN.lQ]
 |.l p,.r q,v,.node ..,_=>by simp[aN.set,aN.pA,aN.get]
 |.r p,.l q,v,.leaf,_=>by simp[aN.set,aN.pz,aN.get,aN.lQ]
 |.r p,.l q,v,.node ..,_=>by simp[aN.set,aN.pz,aN.get]
theorem aN.cD(t u:Nat)(v:I)(r:aN):(aN.set (fV u) v r).get (fV t)=if t=u then v else r.get (fV t):=by
 by_cases h:t=u
 · subst h;simp[aN.u5]
 · rw[if_neg h];exact aN.u6 _ _ _ _ (λe=>h (L7 e))
theorem eg.lQ(n:Nat):eg.get .leaf n=none:=rfl
theorem eg.cD:∀(f:Nat) (t:eg) (n m:Nat) (x:Option cX),n<f->(eg.jZ f t n x).get m=if m=n then x else t.get m
 |0,_,n,_,_,h=>by omega
 |f+1,.leaf,0,m,x,_=>by
  cases m with
  |zero=>simp[eg.jZ,eg.get]
  |succ m=>
   simp only[eg.jZ,eg.get]
   have e:Nat.mod m 2=m %2:=rfl
   rcases Nat.mod_two_eq_zero_or_one m with h|h<;>simp[e,h]
 |f+1,.node l v r,0,m,x,_=>by
  cases m with
  |zero=>simp[eg.jZ,eg.get]
  |succ m=>simp[eg.jZ,eg.get]
 |f+1,.leaf,n+1,m,x,aH=>by
  have e (k:Nat):Nat.mod k 2=k %2:=rfl
  have av (k:Nat):Nat.div k 2=k/2:=rfl
  have a3:=λj=>cD f .leaf (n/2) j x (by omega)
  rcases Nat.mod_two_eq_zero_or_one n with h|h
  · simp only[eg.jZ,e,h,av]
    cases m with
    |zero=>simp[eg.get]
    |succ m=>
     simp only[eg.get,e,av]
     rcases Nat.mod_two_eq_zero_or_one m with g|g
     · simp only[g,a3,eg.lQ]
       have:(m/2=n/2)<->(m+1=n+1):=by omega
       simp only[this]
     · simp only[g,eg.lQ]
       rw[if_neg (by omega)]
  · simp only[eg.jZ,e,h,av]
    cases m with
    |zero=>simp[eg.get]
    |succ m=>
     simp only[eg.get,e,av]
     rcases Nat.mod_two_eq_zero_or_one m with g|g
     · simp only[g,eg.lQ]
       rw[if_neg (by omega)]
     · simp only[g,a3,eg.lQ]
       have:(m/2=n/2)<->(m+1=n+1):=by omega
       simp only[this]
 |f+1,.node l v r,n+1,m,x,aH=>by
  have e (k:Nat):Nat.mod k 2=k %2:=rfl
  have av (k:Nat):Nat.div k 2=k/2:=rfl
  have L8:=λj=>cD f l (n/2) j x (by omega)
  have xO:=λj=>cD f r (n/2) j x (by omega)
  rcases Nat.mod_two_eq_zero_or_one n with h|h
  · simp only[eg.jZ,e,h,av]
    cases m with
    |zero=>simp[eg.get]
    |succ m=>
     simp only[eg.get,e,av]
     rcases Nat.mod_two_eq_zero_or_one m with g|g
     · simp only[g,L8]
       have:(m/2=n/2)<->(m+1=n+1):=by omega
       simp only[this]
     · simp only[g]
       rw[if_neg (by omega)]
  · simp only[eg.jZ,e,h,av]
    cases m with
    |zero=>simp[eg.get]
    |succ m=>
     simp only[eg.get,e,av]
     rcases Nat.mod_two_eq_zero_or_one m with g|g
     · simp only[g]
       rw[if_neg (by omega)]
     · simp only[g,xO]
       have:(m/2=n/2)<->(m+1=n+1):=by omega
       simp only[this]
theorem ab.cD(h:ab)(b c:Nat)(o:Option cX):(h.set b o).get c=if c=b then o else h.get c:=
 eg.cD _ _ _ _ _ (Nat.lt_succ_self b)
theorem ab.fA(h:ab)(c:Nat)(o:cX):(h.push o).get c=if c=h.n then some o else h.get c:=
 eg.cD _ _ _ _ _ (Nat.lt_succ_self _)
@[simp] theorem ab.sW (h:ab) (b:Nat) (o:Option cX):(h.set b o).n=h.n:=rfl
@[simp] theorem ab.pB (h:ab) (o:cX):(h.push o).n=h.n+1:=rfl
structure ee where
 a1:Nat
 base:Nat
 size:Nat
abbrev bb:=Nat->Option ee
def ej(μ aK:bb):Prop:=∀b i,μ b=some i->aK b=some i
theorem ej.refl(μ:bb):ej μ μ:=λ_ _ h=>h
theorem ej.trans{μ aK E_:bb}(h:ej μ aK)(ao:ej aK E_):ej μ E_:=λb i e=>ao b i (h b i e)
def AT(i:ee)(off len:Nat):c7->Value->Prop
 |.exact c,v=>v=.slice (some ⟨i.a1,i.base+off,none⟩) len c
 |.aS fw,v=>∃c,v=.slice (some ⟨i.a1,i.base+off,none⟩) len c/\len<=c/\off+c*fw=i.size
 |.dead,v=>len=0/\∃a c,v=.slice (some a) 0 c
mutual
def a2(μ:bb):I->Value->Prop
 |.bad,_=>True
 |.bool b,v=>v=.bool b
 |.int k n,v=>v=.int k n
 |.str s,v=>∃t,v=.string t/\t.data.toList=s
 |.br,v=>v=.pointer none
 |.ptr b off,v=>∃i,μ b=some i/\v=.pointer (some ⟨i.a1,i.base+off,none⟩)
 |.bd,v=>v=.slice none 0 0
 |.slice b off len cap,v=>∃i,μ b=some i/\AT i off len cap v
 |.g2,v=>v=.map none
 |.map r,v=>∃i,μ r=some i/\v=.map (some i.a1)
 |.eY,v=>v=.nilFunc
 |.fn f first aG,v=>∃b0 cs,v=.func (.func f) ⟨b0⟩ ⟨cs⟩/\bP μ first b0/\bP μ aG cs
 |.cS l,v=>∃i,μ l=some i/\v=.func (.yield i.a1) ⟨[]⟩ ⟨[]⟩
 |.ea,v=>v=.nilIface
 |.iface t x,v=>∃y,v=.iface t y/\a2 μ x y
 |.agg cs,v=>∃l,v=.agg ⟨l⟩/\bP μ cs l
 |.aJ vs,v=>∃l,v=.tuple ⟨l⟩/\bP μ vs l
def bP(μ:bb):List I->List Value->Prop
 |[],l=>l=[]
 |a::as,l=>∃v vs,l=v::vs/\a2 μ a v/\bP μ as vs
end
mutual
theorem a2.mono{μ aK:bb}(hle:ej μ aK):∀(a:I) (v:Value),a2 μ a v->a2 aK a v
 |.bad,_,_=>trivial
 |.bool _,_,h=>h
 |.int _ _,_,h=>h
 |.str _,_,h=>h
 |.br,_,h=>h
 |.ptr b off,_,⟨i,h,e⟩=>⟨i,hle _ _ h,e⟩
 |.bd,_,h=>h
 |.slice b off len cap,_,⟨i,h,e⟩=>⟨i,hle _ _ h,e⟩
 |.g2,_,h=>h
 |.map r,_,⟨i,h,e⟩=>⟨i,hle _ _ h,e⟩
 |.eY,_,h=>h
 |.fn f first aG,_,⟨b0,cs,e,aa,ad⟩=>⟨b0,cs,e,bP.mono hle _ _ aa,bP.mono hle _ _ ad⟩
 |.cS l,_,⟨i,h,e⟩=>⟨i,hle _ _ h,e⟩
 |.ea,_,h=>h
 |.iface t x,_,⟨y,e,h⟩=>⟨y,e,a2.mono hle _ _ h⟩
 |.agg cs,_,⟨l,e,h⟩=>⟨l,e,bP.mono hle _ _ h⟩
 |.aJ cs,_,⟨l,e,h⟩=>⟨l,e,bP.mono hle _ _ h⟩
theorem bP.mono{μ aK:bb}(hle:ej μ aK):∀(as:List I) (vs:List Value),bP μ as vs->bP aK as vs
 |[],_,h=>h
 |a::as,_,⟨v,vs,e,aa,ad⟩=>⟨v,vs,e,a2.mono hle _ _ aa,bP.mono hle _ _ ad⟩
end
mutual
theorem iP(μ:bb):∀v:Value,a2 μ (mr v) v
 |.bool b=>rfl
 |.int k n=>rfl
 |.string s=>⟨s,rfl,rfl⟩
 |.pointer none=>rfl
 |.pointer (some _)=>trivial
 |.slice none 0 0=>rfl
 |.slice none 0 (_+1)=>trivial
 |.slice none (_+1) _=>trivial
 |.slice (some _) _ _=>trivial
 |.map none=>rfl
 |.map (some _)=>trivial
 |.nilFunc=>rfl
 |.nilIface=>rfl
 |.agg ⟨cs⟩=>⟨cs,rfl,AU μ cs⟩
 |.tuple ⟨cs⟩=>⟨cs,rfl,AU μ cs⟩
 |.float _ _=>trivial
 |.complex _ _ _=>trivial
 |.chan _=>trivial
 |.func _ _ _=>trivial
 |.iface _ _=>trivial
theorem AU(μ:bb):∀vs:List Value,bP μ (xE vs) vs
 |[]=>rfl
 |v::vs=>⟨v,vs,rfl,iP μ v,AU μ vs⟩
end
theorem bP.length{μ:bb}:∀{as:List I} {vs:List Value},bP μ as vs->as.length=vs.length
 |[],_,h=>by cases h;rfl
 |a::as,_,⟨v,vs,e,_,ad⟩=>by subst e;simp[bP.length ad]
theorem bP.append{μ:bb}:∀{as bs:List I} {vs us:List Value},bP μ as vs->bP μ bs us->bP μ (as++bs) (vs++us)
 |[],_,_,_,h,ao=>by cases h;exact ao
 |a::as,_,_,_,⟨v,vs,e,aa,ad⟩,ao=>by subst e;exact⟨v,vs++_,rfl,aa,bP.append ad ao⟩
theorem bP.get{μ:bb}:∀{as:List I} {vs:List Value} (_:bP μ as vs) {j:Nat} {a:I},as[j]? =some a->∃v,vs[j]? =some v/\a2 μ a v
 |[],_,_,j,a,h=>by simp at h
 |x::as,_,⟨v,vs,e,aa,ad⟩,0,a,h=>by
  subst e;simp at h;subst h;exact⟨v,rfl,aa⟩
 |x::as,_,⟨v,vs,e,aa,ad⟩,j+1,a,h=>by
  subst e;simp at h;simpa using bP.get ad h
theorem bP.u7{μ:bb}:∀{as:List I} {vs:List Value},as.length=vs.length->(∀(j:Nat) (a:I),as[j]? =some a->∃v,vs[j]? =some v/\a2 μ a v)->bP μ as vs
 |[],[],_,_=>rfl
 |[],_::_,h,_=>by simp at h
 |_::_,[],h,_=>by simp at h
 |a::as,v::vs,h,ah=>by
  refine⟨v,vs,rfl,?_,bP.u7 (by simpa using h) λj x J=>?_⟩
  · obtain⟨u,hu,r⟩:=ah 0 a rfl
    simp at hu;subst hu;exact r
  · simpa using ah (j+1) x (by simpa using J)
theorem bP.map{μ:bb}{qW:Type}(g:qW->I)(b6:qW->Value)(h:∀x,a2 μ (g x) (b6 x)):∀l:List qW,bP μ (l.map g) (l.map b6)
 |[]=>rfl
 |x::l=>⟨_,_,rfl,h x,bP.map g b6 h l⟩
theorem a2.cells{μ:bb}{a:I}{v:Value}(h:a2 μ a v)(ae:a≠ .bad):bP μ a.cells v.cells.toList:=by
 cases a with
 |bad=>exact absurd rfl ae
 |agg cs=>obtain⟨l,rfl,ar⟩:=h;exact ar
 |aJ vs=>obtain⟨l,rfl,ar⟩:=h;exact⟨_,_,rfl,⟨l,rfl,ar⟩,rfl⟩
 |bool b=>cases h;exact⟨_,_,rfl,rfl,rfl⟩
 |int k n=>cases h;exact⟨_,_,rfl,rfl,rfl⟩
 |str s=>obtain⟨t,rfl,e⟩:=h;exact⟨_,_,rfl,⟨t,rfl,e⟩,rfl⟩
 |br=>cases h;exact⟨_,_,rfl,rfl,rfl⟩
 |ptr b off=>obtain⟨i,e,rfl⟩:=h;exact⟨_,_,rfl,⟨i,e,rfl⟩,rfl⟩
 |bd=>cases h;exact⟨_,_,rfl,rfl,rfl⟩
 |slice b off len cap=>
  obtain⟨i,e,af⟩:=h
  have:v.cells=#[v]:=by
   cases cap with
   |exact c=>cases af;rfl
   |aS fw=>obtain⟨c,rfl,_⟩:=af;rfl
   |dead=>obtain⟨_,a,c,rfl⟩:=af;rfl
  rw[this];exact⟨_,_,rfl,⟨i,e,af⟩,rfl⟩
 |g2=>cases h;exact⟨_,_,rfl,rfl,rfl⟩
 |map r=>obtain⟨i,e,rfl⟩:=h;exact⟨_,_,rfl,⟨i,e,rfl⟩,rfl⟩
 |eY=>cases h;exact⟨_,_,rfl,rfl,rfl⟩
 |fn f a b=>obtain⟨b0,cs,rfl,aa,ad⟩:=h;exact⟨_,_,rfl,⟨b0,cs,rfl,aa,ad⟩,rfl⟩
 |cS l=>obtain⟨i,e,rfl⟩:=h;exact⟨_,_,rfl,⟨i,e,rfl⟩,rfl⟩
 |ea=>cases h;exact⟨_,_,rfl,rfl,rfl⟩
 |iface t x=>obtain⟨y,rfl,aO⟩:=h;exact⟨_,_,rfl,⟨y,rfl,aO⟩,rfl⟩
theorem a2.u9{μ:bb}{a:I}{v:Value}(h:a2 μ a v)(af:a.cw=true):v.oneCell'=true:=by
 cases a with
 |bad=>simp[I.cw] at af
 |agg cs=>simp[I.cw] at af
 |aJ vs=>simp[I.cw] at af
 |bool b=>cases h;rfl
 |int k n=>cases h;rfl
 |str s=>obtain⟨t,rfl,e⟩:=h;rfl
 |br=>cases h;rfl
 |ptr b off=>obtain⟨i,e,rfl⟩:=h;rfl
 |bd=>cases h;rfl
 |slice b off len cap=>
  obtain⟨i,e,af⟩:=h
  cases cap with
  |exact c=>cases af;rfl
  |aS fw=>obtain⟨c,rfl,_⟩:=af;rfl
  |dead=>obtain⟨_,a,c,rfl⟩:=af;rfl
 |g2=>cases h;rfl
 |map r=>obtain⟨i,e,rfl⟩:=h;rfl
 |eY=>cases h;rfl
 |fn f a b=>obtain⟨b0,cs,rfl,aa,ad⟩:=h;rfl
 |cS l=>obtain⟨i,e,rfl⟩:=h;rfl
 |ea=>cases h;rfl
 |iface t x=>obtain⟨y,rfl,aO⟩:=h;rfl
def hA(need:Nat)(μ:bb)(r:aN)(bQ:Array Value):Prop:=∀t,Nat.testBit need t=true->a2 μ (r.get (fV t)) (bQ.getD t undef)
theorem hA.mono{need:Nat}{μ aK:bb}{r:aN}{bQ:Array Value}(hle:ej μ aK)(h:hA need μ r bQ):hA need aK r bQ:=λt bm=>(h t bm).mono hle
inductive qX(μ:bb):bz->Deferred->Prop where
 |call (f:Nat) (args:List I) (cap vs:List Value) (h:bP μ args (vs++cap)):qX μ (.call f args) {target:=.fn (.func f) ⟨cap⟩,args:=⟨vs⟩}
 |collected (r:Nat) (i:ee) (h:μ r=some i):qX μ (.collected r) {target:=.collected i.a1,args:=#[]}
theorem qX.mono{μ aK:bb}(hle:ej μ aK){a:bz}{d:Deferred}(h:qX μ a d):qX aK a d:=by
 cases h with
 |call f args cap vs h=>exact .call f args cap vs (h.mono hle)
 |collected r i h=>exact .collected r i (hle _ _ h)
def fh(μ:bb):List bz->List Deferred->Prop
 |[],l=>l=[]
 |a::as,l=>∃d ds,l=d::ds/\qX μ a d/\fh μ as ds
theorem fh.mono{μ aK:bb}(hle:ej μ aK):∀{as:List bz} {ds:List Deferred},fh μ as ds->fh aK as ds
 |[],_,h=>h
 |_::_,_,⟨d,ds,e,aa,ad⟩=>⟨d,ds,e,aa.mono hle,fh.mono hle ad⟩
theorem fh.append{μ:bb}:∀{as bs:List bz} {ds es:List Deferred},fh μ as ds->fh μ bs es->fh μ (as++bs) (ds++es)
 |[],_,_,_,h,ao=>by cases h;exact ao
 |_::_,_,_,_,⟨d,ds,e,aa,ad⟩,ao=>by subst e;exact⟨d,ds++_,rfl,aa,fh.append ad ao⟩
def pC(μ:bb)(e:db)(m:MapEntry):Prop:=a2 μ e.key m.key/\a2 μ e.val m.val/\e.born=m.born
def e2(μ:bb):List db->List MapEntry->Prop
 |[],l=>l=[]
 |e::es,l=>∃m ms,l=m::ms/\pC μ e m/\e2 μ es ms
theorem pC.mono{μ aK:bb}(hle:ej μ aK){e:db}{m:MapEntry}(h:pC μ e m):pC aK e m:=⟨h.1.mono hle,h.2.1.mono hle,h.2.2⟩
theorem e2.mono{μ aK:bb}(hle:ej μ aK):∀{es:List db} {ms:List MapEntry},e2 μ es ms->e2 aK es ms
 |[],_,h=>h
 |_::_,_,⟨m,ms,e,aa,ad⟩=>⟨m,ms,e,aa.mono hle,e2.mono hle ad⟩
def xP(μ:bb)(cs:List I)(c:Array Value)(base:Nat):Prop:=∀(j:Nat) (v:I),cs[j]? =some v->∃u,c[base+j]? =some u/\a2 μ v u
def Fa(k:hz)(cs:List I)(i:ee)(aY ag fi fj:Nat):Prop:=match k with
 |.own=>i.base=0/\i.size=cs.length/\fi=aY/\fj=ag
 |.aS=>cs.length<=i.size/\∀j,j<i.size->fi<=i.base+j->i.base+j<fj->aY<=j/\j<ag
 |.ro=>True
 |.fz=>True
def nA(μ:bb)(o:cX)(i:ee)(w:World):Prop:=match o with
 |.cells cs el k aY ag=>∃c fi fj,w.heap[i.a1]? =some (.cells c el (fi,fj))/\xP μ cs c i.base/\i.base+i.size=c.size/\Fa k cs i aY ag fi fj
 |.map es clock=>∃ents,w.heap[i.a1]? =some (.map ⟨ents⟩ clock)/\e2 μ es ents
 |.pn s pos=>i.base=0/\∃full,w.heap[i.a1]? =some (.stringIter full pos)/\full.data.toList.drop pos=s
 |.mapIter none since seen last=>i.base=0/\w.heap[i.a1]? =some (.mapIter none since ⟨seen⟩ last)
 |.mapIter (some m) since seen last=>i.base=0/\∃j,μ m=some j/\w.heap[i.a1]? =some (.mapIter (some j.a1) since ⟨seen⟩ last)
 |.loop st eZ need k2 params as bV dM=>∃bQ gO fn,μ dM=some gO/\w.heap[i.a1]? =some (.loop {state:=st,pending:=eZ,fn:=fn,tmps:=bQ,params:=⟨params⟩,assign:=as,body:=bV,defers:=gO.a1})/\hA need μ k2 bQ/\gx bQ.size as=true/\gx bQ.size bV=true/\∀t∈params,t<bQ.size
 |.defrd none=>w.heap[i.a1]? =some (.deferred none)
 |.defrd (some ds)=>∃l,w.heap[i.a1]? =some (.deferred (some l))/\fh μ ds l
 |.raw o=>i.base=0/\w.heap[i.a1]? =some o
theorem nA.mono{μ aK:bb}(hle:ej μ aK){o:cX}{i:ee}{w w':World}(hw:w'.heap[i.a1]? =w.heap[i.a1]?)(h:nA μ o i w):nA aK o i w':=by
 cases o with
 |cells cs el k aY ag=>
  obtain⟨c,fi,fj,aa,ad,aq⟩:=h
  exact⟨c,fi,fj,hw.trans aa,λj v e=>let⟨u,hu,r⟩:=ad j v e;⟨u,hu,r.mono hle⟩,aq⟩
 |map es clock=>obtain⟨ents,aa,ad⟩:=h;exact⟨ents,hw.trans aa,ad.mono hle⟩
 |pn s pos=>obtain⟨h0,full,aa,ad⟩:=h;exact⟨h0,full,hw.trans aa,ad⟩
 |mapIter m since seen last=>
  cases m with
  |none=>exact⟨h.1,hw.trans h.2⟩
  |some m=>obtain⟨h0,j,aa,ad⟩:=h;exact⟨h0,j,hle _ _ aa,hw.trans ad⟩
 |loop st eZ fn k2 params as bV dM=>obtain⟨bQ,gO,AV,aa,ad,aq,aC⟩:=h;exact⟨bQ,gO,AV,hle _ _ aa,hw.trans ad,aq.mono hle,aC⟩
 |defrd calls=>
  cases calls with
  |none=>exact hw.trans h
  |some ds=>obtain⟨l,aa,ad⟩:=h;exact⟨l,hw.trans aa,ad.mono hle⟩
 |raw o=>exact⟨h.1,hw.trans h.2⟩
def cX.nB:cX->Bool
 |.cells _ _ .ro _ _=>true
 |.raw _=>true
 |_=>false
structure bc(μ:bb)(H:ab)(w:World):Prop where
 rel:∀b o i,H.get b=some o->μ b=some i->nA μ o i w
 inj:∀b c i j,H.get b≠none->(∃o,H.get c=some o/\o.nB=false)->μ b=some i->μ c=some j->i.a1=j.a1->b=c
 lt:∀b i,μ b=some i->b<H.n/\i.a1<w.heap.size
 bound:∀b,H.n<=b->H.get b=none
structure bN(μ:bb)(H:ab)(w:World)(aK:bb)(aI:ab)(w':World):Prop where
 le:ej μ aK
 size:w.heap.size<=w'.heap.size
 n:H.n<=aI.n
 live:∀b,b<H.n->aI.get b≠none->H.get b≠none
 idle:∀b,b<H.n->μ b=none->aI.get b=H.get b
 old:∀r,r<w.heap.size->(∀b i,H.get b≠none->μ b=some i->i.a1≠r)->w'.heap[r]? =w.heap[r]?
 new:∀b i,μ b=none->aK b=some i->H.n<=b/\(w.heap.size<=i.a1\/∃c o j,H.get c=some o/\o.nB=false/\μ c=some j/\j.a1=i.a1)
 ro:∀b o i,H.get b=some o->o.nB=true->μ b=some i->aI.get b=some o/\w'.heap[i.a1]? =w.heap[i.a1]?
 os:w'.os=w.os
 out:w'.output=w.output
 tape:w'.tape=w.tape
 drawn:w.drawn<=w'.drawn
theorem bN.refl(μ:bb)(H:ab)(w:World):bN μ H w μ H w where
 le:=ej.refl μ
 size:=Nat.le_refl _
 n:=Nat.le_refl _
 live:=λ_ _ h=>h
 idle:=λ_ _ _=>rfl
 old:=λ_ _ _=>rfl
 new:=λb i h ao=>by rw[h] at ao;cases ao
 ro:=λ_ _ _ h _ _=>⟨h,rfl⟩
 os:=rfl
 out:=rfl
 tape:=rfl
 drawn:=Nat.le_refl _
theorem bN.trans{μ gP sX:bb}{H H1 bU:ab}{w cz cA:World}(ah:bc μ H w)(hR:bc gP H1 cz)(h:bN μ H w gP H1 cz)(ao:bN gP H1 cz sX bU cA):bN μ H w sX bU cA where
 le:=h.le.trans ao.le
 size:=Nat.le_trans h.size ao.size
 n:=Nat.le_trans h.n ao.n
 live:=λb ae ar=>h.live b ae (ao.live b (Nat.lt_of_lt_of_le ae h.n) ar)
 idle:=λb ae hm=>by
  rw[<-h.idle b ae hm]
  refine ao.idle b (Nat.lt_of_lt_of_le ae h.n) ?_
  cases aa:gP b with
  |none=>rfl
  |some i=>exact absurd (h.new b i hm aa).1 (Nat.not_le.2 ae)
 old:=λr ai aH=>by
  rw[ao.old r (Nat.lt_of_lt_of_le ai h.size),h.old r ai aH]
  intro b i ar hm he
  cases xQ:μ b with
  |some j=>
   have:=h.le b j xQ
   rw[hm] at this;cases this
   exact aH b i (h.live b (ah.lt b i xQ).1 ar) xQ he
  |none=>
   obtain⟨_,ag|⟨c,o,j,af,_,aF,mA⟩⟩:=h.new b i xQ hm
   · omega
   · exact aH c j (by rw[af];simp) aF (mA.trans he)
 new:=λb i ae e9=>by
  cases aa:gP b with
  |some j=>
   have:=ao.le b j aa
   rw[e9] at this;cases this
   exact h.new b i ae aa
  |none=>
   obtain⟨aH,ag|⟨c,o,j,af,fk,aF,mA⟩⟩:=ao.new b i aa e9
   · exact⟨Nat.le_trans h.n aH,.inl (Nat.le_trans h.size ag)⟩
   · refine⟨Nat.le_trans h.n aH,?_⟩
     cases h0:μ c with
     |some hB=>
      have:=h.le c hB h0
      rw[aF] at this;cases this
      have sY:H.get c≠none:=h.live c (ah.lt c j h0).1 (by rw[af];simp)
      cases aj:H.get c with
      |none=>exact absurd aj sY
      |some AW=>
       cases xR:AW.nB with
       |false=>exact .inr ⟨c,AW,j,aj,xR,h0,mA⟩
       |true=>
        have:=(h.ro c AW j aj xR h0).1
        rw[af] at this;cases this
        rw[fk] at xR;cases xR
     |none=>
      obtain⟨_,ag|⟨c',o',hB,nC,L9,qY,L_⟩⟩:=h.new c j h0 aF
      · exact .inl (mA▸ag)
      · exact .inr ⟨c',o',hB,nC,L9,qY,L_.trans mA⟩
 ro:=λb o i ae ai ag=>by
  obtain⟨aa,ad⟩:=h.ro b o i ae ai ag
  obtain⟨aq,aC⟩:=ao.ro b o i aa ai (h.le b i ag)
  exact⟨aq,aC.trans ad⟩
 os:=ao.os.trans h.os
 out:=ao.out.trans h.out
 tape:=ao.tape.trans h.tape
 drawn:=Nat.le_trans h.drawn ao.drawn
theorem bc.of_heap{μ:bb}{H:ab}{w w':World}(h:bc μ H w)(he:w'.heap=w.heap):bc μ H w' where
 rel:=λb o i ae ag=>(h.rel b o i ae ag).mono (ej.refl μ) (by rw[he])
 inj:=h.inj
 lt:=λb i ag=>by rw[he];exact h.lt b i ag
 bound:=h.bound
theorem bN.of_heap{μ:bb}{H:ab}{w w':World}(he:w'.heap=w.heap)(aQ:w'.os=w.os)(aL:w'.output=w.output)(bm:w'.tape=w.tape)(ak:w.drawn<=w'.drawn:=by first|exact Nat.le_refl _|exact Nat.le_succ _|assumption):bN μ H w μ H w' where
 le:=ej.refl μ
 size:=by rw[he];exact Nat.le_refl _
 n:=Nat.le_refl _
 live:=λ_ _ h=>h
 idle:=λ_ _ _=>rfl
 old:=λ_ _ _=>by rw[he]
 new:=λb i h ao=>by rw[h] at ao;cases ao
 ro:=λ_ _ _ h _ _=>⟨h,by rw[he]⟩
 os:=aQ
 out:=aL
 tape:=bm
 drawn:=ak
def eG(μ:bb)(b:Nat)(i:ee):bb:=λc=>if c=b then some i else μ c
theorem fl(μ:bb)(b:Nat)(i:ee):eG μ b i b=some i:=by simp[eG]
theorem gh(μ:bb){b c:Nat}(i:ee)(h:c≠b):eG μ b i c=μ c:=by simp[eG,h]
theorem bc.fresh{μ:bb}{H:ab}{w:World}(h:bc μ H w):μ H.n=none:=by
 cases e:μ H.n with
 |none=>rfl
 |some i=>exact absurd (h.lt _ _ e).1 (Nat.lt_irrefl _)
theorem bc.mB{μ:bb}{H:ab}{w:World}(h:bc μ H w)(i:ee):ej μ (eG μ H.n i):=λb j e=>by
 rw[gh];exact e
 intro ae;subst ae;rw[h.fresh] at e;cases e
theorem bc.alloc{μ:bb}{H:ab}{w:World}(h:bc μ H w)(o:cX)(x:Obj)(sz:Nat)
  (ai:nA (eG μ H.n ⟨w.heap.size,0,sz⟩) o ⟨w.heap.size,0,sz⟩ (w.alloc x)):
  bc (eG μ H.n ⟨w.heap.size,0,sz⟩) (H.push o) (w.alloc x)/\bN μ H w (eG μ H.n ⟨w.heap.size,0,sz⟩) (H.push o) (w.alloc x):=by
 have hle:=h.mB ⟨w.heap.size,0,sz⟩
 have hold:∀r,r<w.heap.size->(w.alloc x).heap[r]? =w.heap[r]? :=λr ai=>by
  simp only[World.alloc,Array.getElem?_push];rw[if_neg (by omega)]
 constructor
 · refine⟨λb cE i ae ag=>?_,λb c i j ae af ag aF e=>?_,λb i ag=>?_,λb ae=>?_⟩
   · rw[ab.fA] at ae
     by_cases e:b=H.n
     · rw[if_pos e] at ae;subst e;cases ae
       rw[fl] at ag;cases ag
       exact ai
     · rw[if_neg e] at ae;rw[gh _ _ e] at ag
       exact(h.rel b cE i ae ag).mono hle (hold _ (h.lt b i ag).2)
   · by_cases ax:b=H.n
     · by_cases av:c=H.n
       · rw[ax,av]
       · subst ax;rw[fl] at ag;cases ag
         rw[gh _ _ av] at aF
         have:=(h.lt c j aF).2
         simp only at e;omega
     · by_cases av:c=H.n
       · subst av;rw[fl] at aF;cases aF
         rw[gh _ _ ax] at ag
         have:=(h.lt b i ag).2
         simp only at e;omega
       · rw[gh _ _ ax] at ag;rw[gh _ _ av] at aF
         rw[ab.fA,if_neg ax] at ae
         rw[ab.fA,if_neg av] at af
         exact h.inj b c i j ae af ag aF e
   · by_cases e:b=H.n
     · subst e;rw[fl] at ag;cases ag;simp
     · rw[gh _ _ e] at ag
       have:=h.lt b i ag
       simp only[ab.pB,World.size_alloc];omega
   · simp only[ab.pB] at ae
     rw[ab.fA,if_neg (by omega)];exact h.bound b (by omega)
 · refine⟨hle,by simp,by simp,λb ae ar=>?_,λb ae _=>(by rw[ab.fA,if_neg (by omega)]),λr ai _=>hold r ai,λb i ae e9=>?_,λb cE i ae _ ag=>?_,rfl,rfl,rfl,Nat.le_refl _⟩
   · rw[ab.fA,if_neg (by omega)] at ar;exact ar
   · by_cases e:b=H.n
     · subst e;rw[fl] at e9;cases e9;exact⟨Nat.le_refl _,.inl (Nat.le_refl _)⟩
     · rw[gh _ _ e,ae] at e9;cases e9
   · have:=h.lt b i ag
     rw[ab.fA,if_neg (by omega)]
     exact⟨ae,hold _ this.2⟩
theorem bc.update{μ:bb}{H:ab}{w w':World}(h:bc μ H w){b:Nat}{o o':cX}{i:ee}(ae:H.get b=some o)(fk:o.nB=false)(ag:μ b=some i)
  (hs:w'.heap.size=w.heap.size)(aQ:∀r,r≠i.a1->w'.heap[r]? =w.heap[r]?)(u_:w'.os=w.os)(AX:w'.output=w.output)(AY:w'.tape=w.tape)(ai:nA μ o' i w')(hdr:w.drawn<=w'.drawn:=by first|exact Nat.le_refl _|assumption):
  bc μ (H.set b (some o')) w'/\bN μ H w μ (H.set b (some o')) w':=by
 have sY:H.get b≠none:=by rw[ae];simp
 have ov:∀c,(H.set b (some o')).get c≠none->H.get c≠none:=λc af=>by
  rw[ab.cD] at af
  by_cases e:c=b
  · subst e;exact sY
  · rw[if_neg e] at af;exact af
 constructor
 · refine⟨λc iQ j af aF=>?_,λc d j k af ak=>h.inj c d j k (ov c af) (by
     obtain⟨x,J,nD⟩:=ak
     rw[ab.cD] at J
     by_cases e:d=b
     · subst e;exact⟨o,ae,fk⟩
     · rw[if_neg e] at J;exact⟨x,J,nD⟩),λc j aF=>by rw[hs];exact h.lt c j aF,λc af=>?_⟩
   · rw[ab.cD] at af
     by_cases e:c=b
     · subst e;rw[if_pos rfl] at af;cases af
       rw[ag] at aF;cases aF;exact ai
     · rw[if_neg e] at af
       refine(h.rel c iQ j af aF).mono (ej.refl μ) (aQ _ λcn=>e (h.inj c b j i (by rw[af];simp) ⟨o,ae,fk⟩ aF ag cn))
   · rw[ab.cD,if_neg]
     · exact h.bound c af
     · intro e;subst e;have:=(h.lt c i ag).1;simp at af;omega
 · refine⟨ej.refl μ,by omega,by simp,λc _ af=>ov c af,λc _ hm=>(by rw[ab.cD,if_neg];intro e;subst e;rw[ag] at hm;cases hm),λr ai aH=>aQ r λe=>aH b i sY ag e.symm,λc j aa ad=>(by rw[aa] at ad;cases ad),λc iQ j af pD aF=>?_,u_,AX,AY,hdr⟩
   have cF:c≠b:=by intro e;subst e;rw[ae] at af;cases af;rw[fk] at pD;cases pD
   refine⟨by rw[ab.cD,if_neg cF];exact af,aQ _ λe=>cF (h.inj c b j i (by rw[af];simp) ⟨o,ae,fk⟩ aF ag e)⟩
end a8
namespace a8
open Go
theorem add_plain(b o n:Nat):(⟨b,o,none⟩:Addr).add n=⟨b,o+n,none⟩:=by
 unfold Addr.add
 by_cases h:n=0
 · simp[h]
 · simp[h]
theorem ow{α:Type}:∀(n:Nat) (l:List α),nth n l=l[n]?
 |0,[]=>rfl
 |_+1,[]=>rfl
 |0,_::_=>rfl
 |n+1,_::l=>by simpa[nth] using ow n l
theorem lR{α:Type}:∀(n:Nat) (l:List α),ih n l=l.drop n
 |0,l=>by simp[ih]
 |_+1,[]=>by simp[ih]
 |n+1,_::l=>by simpa[ih] using lR n l
theorem qZ:∀(n:Nat) (l r:List I),takeN n l=some r->n<=l.length/\r=l.take n
 |0,l,r,h=>by simp[takeN] at h;subst h;simp
 |_+1,[],r,h=>by simp[takeN] at h
 |n+1,a::l,r,h=>by
  simp only[takeN] at h
  cases e:takeN n l with
  |none=>simp[e] at h
  |some r'=>
   simp[e] at h;subst h
   obtain⟨aa,ad⟩:=qZ n l r' e
   simp[ad];omega
theorem xS:∀(n:Nat) (vs cs r:List I),ff n vs cs=some r->
  r.length=cs.length/\(vs≠[]->n+vs.length<=cs.length)/\(∀v∈vs,v.cw=true)/\∀j,r[j]? =if n<=j/\j<n+vs.length then vs[j-n]? else cs[j]?
 |0,[],cs,r,h=>by
  simp[ff] at h;subst h
  refine⟨rfl,λh=>absurd rfl h,λv aD=>(by cases aD),λj=>by rw[if_neg (by simp)]⟩
 |0,_::_,[],r,h=>by simp[ff] at h
 |0,v::vs,c::cs,r,h=>by
  simp only[ff] at h
  cases af:v.cw with
  |false=>simp[af] at h
  |true=>
   simp only[af] at h
   cases e:ff 0 vs cs with
   |none=>simp[e] at h
   |some r'=>
    simp[e] at h;subst h
    obtain⟨aa,ad,aq,aC⟩:=xS 0 vs cs r' e
    refine⟨by simp[aa],λ_=>?_,λx J=>?_,λj=>?_⟩
    · cases vs with
      |nil=>simp
      |cons a l=>have:=ad (by simp);simp at this⊢;omega
    · cases J with
      |head=>exact af
      |tail _ J=>exact aq x J
    · cases j with
      |zero=>simp
      |succ j=>simpa using aC j
 |n+1,[],cs,r,h=>by
  simp[ff] at h;subst h
  refine⟨rfl,λh=>absurd rfl h,λv aD=>(by cases aD),λj=>by rw[if_neg (by simp)]⟩
 |n+1,_::_,[],r,h=>by simp[ff] at h
 |n+1,v::vs,c::cs,r,h=>by
  simp only[ff] at h
  cases e:ff n (v::vs) cs with
  |none=>simp[e] at h
  |some r'=>
   simp[e] at h;subst h
   obtain⟨aa,ad,aq,aC⟩:=xS n (v::vs) cs r' e
   refine⟨by simp[aa],λ_=>?_,aq,λj=>?_⟩
   · have:=ad (by simp);simp at this⊢;omega
   · cases j with
     |zero=>simp
     |succ j=>
      have:=aC j
      simp only[List.getElem?_cons_succ,this,List.length_cons]
      have ax:(n+1<=j+1/\j+1<n+1+(vs.length+1))<->(n<=j/\j<n+(vs.length+1)):=by omega
      have av:j+1-(n+1)=j-n:=by omega
      simp only[ax,av]
theorem va{w:World}{a1 el fi fj:Nat}{c:Array Value}(h:w.heap[a1]? =some (.cells c el (fi,fj)))(k:Nat):w.cell? ⟨a1,k,none⟩=c[k]? :=by
 simp[World.cell?,h]
theorem Fb{μ:bb}{H:ab}{w:World}(ah:bc μ H w){b off:Nat}{i:ee}(ag:μ b=some i){cs:List I}{el aY ey:Nat}{k:hz}(ae:H.get b=some (.cells cs el k aY ey))
  {v:I}(aD:cs[off]? =some v):∃u,w.cell? ⟨i.a1,i.base+off,none⟩=some u/\a2 μ v u:=by
 obtain⟨c,fi,fj,aa,ad,_⟩:=ah.rel b _ i ae ag
 obtain⟨u,hu,r⟩:=ad off v aD
 exact⟨u,by rw[va aa,hu],r⟩
theorem Fc{P:Program}{w:World}{a:Addr}{u:Value}(h:w.cell? a=some u):(_root_.Go.load a).run P w=.ok u w:=by
 rw[run_load];simp[h]
theorem Ma{P:Program}{μ:bb}{H:ab}{w:World}(ah:bc μ H w){b:Nat}{i:ee}(ag:μ b=some i){cs:List I}{el aY ey:Nat}{k:hz}(ae:H.get b=some (.cells cs el k aY ey))(off:Nat):
  ∀(n s:Nat) (acc:Array Value) (pE:List I),takeN n (ih (off+s) cs)=some pE->
   ∃us:List Value,(loadCellsFrom ⟨i.a1,i.base+off,none⟩ s n acc).run P w=.ok (acc++us.toArray) w/\bP μ pE us:=by
 intro n
 induction n with
 |zero=>
  intro s acc pE h
  simp[takeN] at h;subst h
  exact⟨[],by simp[loadCellsFrom],rfl⟩
 |succ n a3=>
  intro s acc pE h
  rw[lR] at h
  cases ak:cs.drop (off+s) with
  |nil=>rw[ak] at h;simp[takeN] at h
  |cons a l=>
   rw[ak] at h
   simp only[takeN] at h
   cases e:takeN n l with
   |none=>simp[e] at h
   |some r=>
    simp[e] at h;subst h
    have aw:cs[off+s]? =some a:=by
     have:=congrArg (·[0]?) ak
     simpa[List.getElem?_drop] using this
    have ar:l=ih (off+(s+1)) cs:=by
     rw[lR]
     have:=congrArg (List.drop 1) ak
     simp only[List.drop_drop,List.drop_succ_cons,List.drop_zero] at this
     rw[<-this];congr 1
    obtain⟨u,hu,ai⟩:=Fb ah ag ae aw
    obtain⟨us,aa,ad⟩:=a3 (s+1) (acc.push u) r (by rw[<-ar];exact e)
    refine⟨u::us,?_,⟨u,us,rfl,ai,ad⟩⟩
    have mC:w.cell? ((⟨i.a1,i.base+off,none⟩:Addr).add s)=some u:=by rw[add_plain,Nat.add_assoc];exact hu
    simp only[loadCellsFrom,Sem.run_bind,Fc mC,Result.andThen_ok,aa]
    congr 1
    apply Array.ext'
    simp
theorem pF{P:Program}{μ:bb}{H:ab}{w:World}(ah:bc μ H w){b off n:Nat}{i:ee}(ag:μ b=some i){pE:List I}(h:loadCells H b off n=some pE):
  ∃us:List Value,(_root_.Go.loadCells ⟨i.a1,i.base+off,none⟩ n).run P w=.ok ⟨us⟩ w/\bP μ pE us:=by
 unfold loadCells at h
 split at h
 · rename_i cs el k aY ey ae
   obtain⟨us,aa,ad⟩:=Ma (P:=P) ah ag ae off n 0 #[] pE h
   exact⟨us,by simpa[_root_.Go.loadCells] using aa,ad⟩
 · cases h
theorem AZ{P:Program}{μ:bb}{H:ab}{w:World}(ah:bc μ H w){b off:Nat}{i:ee}(ag:μ b=some i){v:I}(h:aB H b off=some v):
  ∃u,(_root_.Go.load ⟨i.a1,i.base+off,none⟩).run P w=.ok u w/\a2 μ v u:=by
 unfold aB at h
 split at h
 · rename_i cs el k aY ey ae
   rw[ow] at h
   obtain⟨u,hu,ai⟩:=Fb ah ag ae h
   exact⟨u,Fc hu,ai⟩
 · cases h
theorem Fe(P:Program)(a1 k:Nat):∀(vs:List Value) (w:World) (i:Nat) (c:Array Value) (el fi fj:Nat),w.heap[a1]? =some (.cells c el (fi,fj))->
  (∀v∈vs,v.oneCell'=true)->k+i+vs.length<=c.size->(∀j,k+i<=j->j<k+i+vs.length->¬(fi<=j/\j<fj))->
  ∃w' c',(_root_.Go.storeCells ⟨a1,k,none⟩ vs i).run P w=.ok () w'/\w'.heap[a1]? =some (.cells c' el (fi,fj))/\(∀r,r≠a1->w'.heap[r]? =w.heap[r]?)/\w'.heap.size=w.heap.size/\
   w'.os=w.os/\w'.output=w.output/\(w'.tape=w.tape/\w'.drawn=w.drawn)/\c'.size=c.size/\∀j,c'[j]? =if k+i<=j/\j<k+i+vs.length then vs[j-(k+i)]? else c[j]? :=by
 intro vs
 induction vs with
 |nil=>
  intro w i c el fi fj ae _ _ _
  exact⟨w,c,by simp[_root_.Go.storeCells],ae,λ_ _=>rfl,rfl,rfl,rfl,⟨rfl,rfl⟩,rfl,λj=>by rw[if_neg (by simp)]⟩
 |cons v vs a3=>
  intro w i c el fi fj ae af hs hf
  simp only[List.length_cons] at hs hf
  have bX:k+i<c.size:=by omega
  have jj:w.cell? ⟨a1,k+i,none⟩=some c[k+i]:=by rw[va ae];exact Array.getElem?_eq_getElem bX
  have Mb:w.frozen? ⟨a1,k+i,none⟩=false:=by
   have:=hf (k+i) (by omega) (by omega)
   simp only[World.frozen?,ae]
   cases aa:decide (fi<=k+i) with
   |false=>rfl
   |true=>
    cases ad:decide (k+i<fj) with
    |false=>rfl
    |true=>exact absurd ⟨of_decide_eq_true aa,of_decide_eq_true ad⟩ this
  have lS:(w.setCell ⟨a1,k+i,none⟩ v).heap[a1]? =some (.cells (c.setIfInBounds (k+i) v) el (fi,fj)):=by
   simp[World.setCell,Array.getElem?_modify,ae]
  obtain⟨w',c',aa,ad,aq,aC,bC,dd,fm,q0,jC⟩:=a3 (w.setCell ⟨a1,k+i,none⟩ v) (i+1) (c.setIfInBounds (k+i) v) el fi fj lS (λx J=>af x (.tail _ J)) (by simp;omega)
   (λj XT nE=>hf j (by omega) (by omega))
  refine⟨w',c',?_,ad,λr ai=>?_,?_,bC,dd,fm,by simpa using q0,λj=>?_⟩
  · simp only[_root_.Go.storeCells,Sem.run_bind,add_plain,run_store P w ⟨a1,k+i,none⟩ v .plain (af v (.head _)),jj,Mb,Bool.false_eq_true,if_false,Result.andThen_ok,aa]
  · rw[aq r ai];simp only[World.setCell,Array.getElem?_modify]
    rw[if_neg (λe=>ai e.symm)]
  · rw[aC];simp[World.setCell]
  · rw[jC j]
    by_cases e:j=k+i
    · subst e
      rw[if_neg (by omega),if_pos (by simp),Array.getElem?_setIfInBounds]
      simp[bX]
    · by_cases av:k+(i+1)<=j/\j<k+(i+1)+vs.length
      · rw[if_pos av,if_pos (by simp only[List.length_cons];omega)]
        have:j-(k+i)=(j-(k+(i+1)))+1:=by omega
        rw[this];simp
      · rw[if_neg av,if_neg (by simp only[List.length_cons];omega),Array.getElem?_setIfInBounds]
        rw[if_neg (λcn=>e cn.symm)]
theorem bP.u9{μ:bb}:∀{as:List I} {vs:List Value},bP μ as vs->(∀a∈as,a.cw=true)->∀v∈vs,v.oneCell'=true
 |[],_,h,_=>by cases h;intro v aD;cases aD
 |a::as,_,⟨v,vs,e,aa,ad⟩,af=>by
  subst e
  intro x J
  cases J with
  |head=>exact aa.u9 (af a (.head _))
  |tail _ J=>exact bP.u9 ad (λa aw=>af a (.tail _ aw)) x J
theorem Mc{k:hz}{aY ag off n:Nat}(hw:jz k aY ag off n=true){cs:List I}{i:ee}{fi fj:Nat}(an:Fa k cs i aY ag fi fj)(eT:n=0\/off+n<=i.size):
  ∀j,i.base+off<=j->j<i.base+off+n->¬(fi<=j/\j<fj):=by
 intro j aa ad ⟨aq,aC⟩
 cases k with
 |ro=>simp[jz] at hw
 |fz=>simp[jz] at hw
 |own=>
  obtain⟨ae,hs,rfl,rfl⟩:=an
  simp only[jz,Bool.or_eq_true,Nat.ble_eq] at hw
  omega
 |aS=>
  obtain⟨hs,hf⟩:=an
  simp only[jz,Bool.or_eq_true,Nat.ble_eq] at hw
  have:=hf (j-i.base) (by omega) (by omega) (by omega)
  omega
theorem vb{P:Program}{μ:bb}{H:ab}{w:World}(ah:bc μ H w){b off:Nat}{i:ee}(ag:μ b=some i){vs:List I}{us:List Value}(aD:bP μ vs us){aI:ab}
  (h:storeCells H b off vs=some aI):
  ∃w',(_root_.Go.storeCells ⟨i.a1,i.base+off,none⟩ us).run P w=.ok () w'/\bc μ aI w'/\bN μ H w μ aI w':=by
 unfold storeCells at h
 split at h
 · rename_i cs el k aY ey ae
   split at h
   · rename_i hw
     split at h
     · rename_i bw aL
       cases h
       obtain⟨eH,fB,j4,lT⟩:=xS _ _ _ _ aL
       obtain⟨c,fi,fj,aa,ad,aq,aC⟩:=ah.rel b _ i ae ag
       have hlen:=aD.length
       have bh:vs≠[]->off+vs.length<=i.size/\i.base+off+vs.length<=c.size:=λcF=>by
        have:=fB cF
        have pG:=ad (cs.length-1) (cs[cs.length-1]'(by cases vs with|nil=>exact absurd rfl cF|cons a l=>simp at this;omega)) (List.getElem?_eq_getElem _)
        obtain⟨u,hu,_⟩:=pG
        have bX:i.base+(cs.length-1)<c.size:=by
         rcases Nat.lt_or_ge (i.base+(cs.length-1)) c.size with h|h
         · exact h
         · rw[Array.getElem?_eq_none h] at hu;cases hu
        have vc:0<vs.length:=by cases vs with|nil=>exact absurd rfl cF|cons a l=>simp
        cases k with
        |ro=>simp[jz] at hw
        |fz=>simp[jz] at hw
        |own=>obtain⟨b8,cG,_⟩:=aC;omega
        |aS=>obtain⟨b8,_⟩:=aC;omega
       by_cases cF:vs=[]
       · subst cF
         have:us=[]:=by cases us with|nil=>rfl|cons a l=>simp at hlen
         subst this
         have g6:bw=cs:=by
          apply List.ext_getElem?
          intro j;rw[lT j,if_neg (by simp)]
         subst g6
         obtain⟨r1,r2⟩:=ah.update (w':=w) ae (by cases k<;>first|rfl|simp[jz] at hw) ag rfl (λ_ _=>rfl) rfl rfl rfl (ah.rel b _ i ae ag)
         exact⟨w,by simp[_root_.Go.storeCells],r1,r2⟩
       · obtain⟨s1,s2⟩:=bh cF
         obtain⟨w',c',ax,av,bq,dD,iR,iS,iA,j5,jD⟩:=Fe P i.a1 (i.base+off) us w 0 c el fi fj aa (aD.u9 j4) (by omega)
          (by have:=Mc hw aC (.inr s1);rw[hlen] at this;simpa using this)
         obtain⟨r1,r2⟩:=ah.update (w':=w') (o':=.cells bw el k aY ey) ae (by cases k<;>first|rfl|simp[jz] at hw) ag dD bq iR iS iA.1 (hdr:=Nat.le_of_eq iA.2.symm)
          ⟨c',fi,fj,av,λj v aF=>by
           rw[lT j] at aF
           rw[jD]
           by_cases ai:off<=j/\j<off+vs.length
           · rw[if_pos ai] at aF
             rw[if_pos (by omega)]
             have:i.base+j-(i.base+off+0)=j-off:=by omega
             rw[this];exact aD.get aF
           · rw[if_neg ai] at aF
             rw[if_neg (by omega)]
             exact ad j v aF,by omega,by
           cases k with
           |ro=>trivial
           |fz=>trivial
           |own=>obtain⟨b8,cG,dw⟩:=aC;exact⟨b8,by omega,dw⟩
           |aS=>obtain⟨b8,cG⟩:=aC;exact⟨by omega,cG⟩⟩
         exact⟨w',ax,r1,r2⟩
     · cases h
   · cases h
 · cases h
theorem World.heap_alloc_new(w:World)(x:Obj):(w.alloc x).heap[w.heap.size]? =some x:=by unfold World.alloc;simp
theorem xU{P:Program}{μ:bb}{H:ab}{w:World}(ah:bc μ H w){el b:Nat}{cs:List I}{us:List Value}{aI:ab}(aD:bP μ cs us)(h:newRow H el cs=some (b,aI)):
  (_root_.Go.newRow el ⟨us⟩).run P w=.ok ⟨w.heap.size,0,none⟩ (w.alloc (.cells ⟨us⟩ el))/\b=H.n/\eG μ H.n ⟨w.heap.size,0,us.length⟩ b=some ⟨w.heap.size,0,us.length⟩/\
   bc (eG μ H.n ⟨w.heap.size,0,us.length⟩) aI (w.alloc (.cells ⟨us⟩ el))/\bN μ H w (eG μ H.n ⟨w.heap.size,0,us.length⟩) aI (w.alloc (.cells ⟨us⟩ el)):=by
 unfold newRow at h
 split at h
 · cases h
   have hle:=ah.mB ⟨w.heap.size,0,us.length⟩
   obtain⟨r1,r2⟩:=ah.alloc (.cells cs el .own 0 0) (.cells ⟨us⟩ el) us.length
    ⟨⟨us⟩,0,0,by exact World.heap_alloc_new _ _,λj v aF=>by
      obtain⟨u,hu,ai⟩:=aD.get aF
      exact⟨u,by simpa using hu,ai.mono hle⟩,by simp,rfl,aD.length.symm,rfl,rfl⟩
   exact⟨by simp[_root_.Go.newRow],rfl,fl _ _ _,r1,r2⟩
 · cases h
section types
variable {P:Program} {w:World} {t:TypeId}
theorem run_typeInfo{i:TypeInfo}(h:P.info? t=some i):(typeInfo t).run P w=.ok i w:=by simp[typeInfo,h]
theorem bE{d:TypeDesc}(h:P.underlying t=some d):(underlying t).run P w=.ok d w:=by simp[underlying,h]
theorem run_sizeOf{n:Nat}(h:cY P t=some n):(_root_.Go.sizeOf t).run P w=Result.ok n w:=by
 unfold cY at h
 split at h
 · rename_i i ag;cases h;simp[_root_.Go.sizeOf,run_typeInfo ag]
 · cases h
theorem sZ{b:Bool}(h:oh P t=some b):(isAgg t).run P w=.ok b w:=by
 unfold oh at h
 cases hu:P.underlying t with
 |none=>rw[hu] at h;cases h
 |some d=>
  rw[hu] at h
  simp only[isAgg,Sem.run_bind,bE hu,Result.andThen_ok]
  cases d<;>cases h<;>rfl
theorem kC{z:I}(h:dt P t=some z):∃v,(zeroValue t).run P w=.ok v w/\z=mr v/\z≠ .bad:=by
 unfold dt at h
 split at h
 · rename_i i ag
   split at h
   · rename_i v aD
     split at h
     · cases h
     · rename_i a cF
       cases h
       exact⟨v,by simp[zeroValue,run_typeInfo ag,aD],rfl,cF⟩
   · cases h
 · cases h
end types
end a8
namespace a8
open Go
def dV(P:Program)(μ:bb)(H:ab)(w:World)(s:Sem Value)(v:I)(aI:ab):Prop:=
 ∃aK w' v',s.run P w=.ok v' w'/\a2 aK v v'/\bc aK aI w'/\bN μ H w aK aI w'
theorem dV.same{P:Program}{μ:bb}{H:ab}{w:World}{s:Sem Value}{v:I}{v':Value}(ah:bc μ H w)(hs:s.run P w=.ok v' w)(aD:a2 μ v v'):dV P μ H w s v H:=
 ⟨μ,w,v',hs,aD,ah,bN.refl _ _ _⟩
section
variable {P:Program} {μ:bb} {H:ab} {w:World}
theorem Md(ah:bc μ H w){e:TypeId}{z:I}(aP:dt P e=some z){b:Nat}{aI:ab}(ai:newRow H e z.cells=some (b,aI)):
  dV P μ H w (Instr.alloc e true (.tuple #[])) (.ptr b 0) aI:=by
 obtain⟨v,aD,rfl,ae⟩:=kC (w:=w) aP
 have af:=(iP μ v).cells ae
 obtain⟨aa,rfl,ad,aq,aC⟩:=xU (P:=P) ah af ai
 refine⟨_,_,.pointer (some ⟨w.heap.size,0,none⟩),?_,⟨_,ad,by simp⟩,aq,aC⟩
 simp[Instr.alloc,aD,newVar,aa]
theorem Me(ah:bc μ H w){e:TypeId}{x:I}{v:Value}(aD:a2 μ x v){b:Nat}{aI:ab}(ai:newRow H e x.cells=some (b,aI)):
  dV P μ H w (Instr.box e v) (.ptr b 0) aI:=by
 have ae:x≠ .bad:=by intro h;rw[h] at ai;simp[newRow,I.cells,I.cw] at ai
 obtain⟨aa,rfl,ad,aq,aC⟩:=xU (P:=P) ah (aD.cells ae) ai
 refine⟨_,_,.pointer (some ⟨w.heap.size,0,none⟩),?_,⟨_,ad,by simp⟩,aq,aC⟩
 simp[Instr.box,newVar,aa]
theorem Mf(ah:bc μ H w){t:TypeId}{b off:Nat}{v:Value}(aD:a2 μ (.ptr b off) v):
  (∀n cs,oh P t=some true->cY P t=some n->loadCells H b off n=some cs->dV P μ H w (Instr.loadAt t v) (.agg cs) H)/\
  (∀x,oh P t=some false->aB H b off=some x->dV P μ H w (Instr.loadAt t v) x H):=by
 obtain⟨i,ag,rfl⟩:=aD
 constructor
 · intro n cs aw aH ar
   obtain⟨us,aa,ad⟩:=pF (P:=P) ah ag ar
   exact .same ah (v':=.agg ⟨us⟩) (by simp[Instr.loadAt,Instr.sureAddr,loadVar,sZ aw,run_sizeOf aH,aa]) ⟨us,rfl,ad⟩
 · intro x aw ar
   obtain⟨u,aa,ad⟩:=AZ (P:=P) ah ag ar
   exact .same ah (v':=u) (by simp only[Instr.loadAt,Instr.sureAddr,loadVar,Sem.run_bind,Sem.run_pure,Result.andThen_ok,sZ aw,Bool.false_eq_true,if_false,aa]) ad
theorem Mg(ah:bc μ H w){t:TypeId}{b off n:Nat}{v u:Value}{x:I}(aD:a2 μ (.ptr b off) v)(J:a2 μ x u)(ae:x≠ .bad)(aH:cY P t=some n)(ar:x.cells.length=n)
  {aI:ab}(hs:storeCells H b off x.cells=some aI):
  ∃w',(Instr.storeAt t v u).run P w=.ok () w'/\bc μ aI w'/\bN μ H w μ aI w':=by
 obtain⟨i,ag,rfl⟩:=aD
 have af:=J.cells ae
 obtain⟨w',aa,ad,aq⟩:=vb (P:=P) ah ag af hs
 refine⟨w',?_,ad,aq⟩
 have bh:u.cells.size=n:=by have:=af.length;rw[ar] at this;simpa using this.symm
 simp[Instr.storeAt,Instr.sureAddr,storeVar,run_sizeOf aH,bh,aa]
theorem Ff(off:Nat):∀(l:List Value) (s:Nat) (cs:Array Value),off+s+l.length<=cs.size->
  ((l.zipIdx s).foldl (λcs (x:Value×Nat)=>cs.setIfInBounds (off+x.2) x.1) cs).size=cs.size/\
  ∀j:Nat,((l.zipIdx s).foldl (λcs (x:Value×Nat)=>cs.setIfInBounds (off+x.2) x.1) cs)[j]? =if off+s<=j/\j<off+s+l.length then l[j-(off+s)]? else cs[j]?
 |[],s,cs,_=>by
  refine⟨rfl,λj=>by rw[if_neg (by simp)];rfl⟩
 |a::l,s,cs,h=>by
  simp only[List.length_cons] at h
  obtain⟨aa,ad⟩:=Ff off l (s+1) (cs.setIfInBounds (off+s) a) (by simp;omega)
  simp only[List.zipIdx_cons,List.foldl_cons]
  refine⟨by rw[aa];simp,λj=>?_⟩
  rw[ad j]
  by_cases e:j=off+s
  · subst e
    rw[if_neg (by omega),if_pos (by simp),Array.getElem?_setIfInBounds]
    simp;omega
  · by_cases av:off+(s+1)<=j/\j<off+(s+1)+l.length
    · rw[if_pos av,if_pos (by simp only[List.length_cons];omega)]
      have:j-(off+s)=(j-(off+(s+1)))+1:=by omega
      rw[this];simp
    · rw[if_neg av,if_neg (by simp only[List.length_cons];omega),Array.getElem?_setIfInBounds,if_neg (λcn=>e cn.symm)]
theorem vd(place:Nat->Option (Nat×Nat)){qW:Type}(g:qW->I)(b6:qW->Value)(aj:∀x,a2 μ (g x) (b6 x)):∀(ps:List (Nat×qW)) (cs r:List I) (c:Array Value),bP μ cs c.toList->
  iz place cs (ps.map λp=>(p.1,g p.2))=some r->∃c':List Value,Instr.fill place c (ps.map λp=>(p.1,b6 p.2))=some ⟨c'⟩/\bP μ r c'
 |[],cs,r,c,af,h=>by
  simp[iz] at h;subst h
  exact⟨c.toList,by simp[Instr.fill],af⟩
 |(k,x)::ps,cs,r,c,af,h=>by
  simp only[List.map_cons] at h⊢
  have aD:=aj x
  generalize g x=v at h aD
  generalize b6 x=u at aD⊢
  have ae:v≠ .bad:=by intro e;subst e;simp[iz] at h
  have ox:∃off size bw,place k=some (off,size)/\v.cells.length=size/\off+size<=cs.length/\ff off v.cells cs=some bw/\iz place bw (ps.map λp=>(p.1,g p.2))=some r:=by
   cases v<;>first
    |exact absurd rfl ae
    |(simp only[iz] at h
      split at h
      · cases h
      · rename_i off size jE
        split at h
        · rename_i bh
          simp only[Bool.and_eq_true,Nat.ble_eq] at bh
          split at h
          · rename_i bw q1
            exact⟨off,size,bw,jE,Nat.eq_of_beq_eq_true bh.1,bh.2,q1,h⟩
          · cases h
        · cases h)
  obtain⟨off,size,bw,jE,bh,hbound,q1,lU⟩:=ox
  obtain⟨eH,fB,j4,lT⟩:=xS _ _ _ _ q1
  have mD:=aD.cells ae
  have ar:=mD.length
  have pH:=af.length
  have aq:c.toList.length=c.size:=by simp
  have Mh:u.cells.size=size:=by rw[<-bh,ar];simp
  obtain⟨f1,f2⟩:=Ff off u.cells.toList 0 c (by simp;omega)
  have Mi:(u.cells.zipIdx.foldl (λcs (x:Value×Nat)=>cs.setIfInBounds (off+x.2) x.1) c)=((u.cells.toList.zipIdx 0).foldl (λcs (x:Value×Nat)=>cs.setIfInBounds (off+x.2) x.1) c):=by
   rw[<-Array.foldl_toList,Array.toList_zipIdx]
  have key:bP μ bw (u.cells.zipIdx.foldl (λcs (x:Value×Nat)=>cs.setIfInBounds (off+x.2) x.1) c).toList:=by
   rw[Mi]
   refine bP.u7 (by rw[eH,pH];simpa using f1.symm) λj a aw=>?_
   rw[lT j] at aw
   rw[Array.getElem?_toList,f2 j]
   have Mj:u.cells.toList.length=v.cells.length:=ar.symm
   by_cases ai:off<=j/\j<off+v.cells.length
   · rw[if_pos ai] at aw;rw[if_pos (by omega)]
     exact mD.get (by simpa using aw)
   · rw[if_neg ai] at aw;rw[if_neg (by omega)]
     simpa using af.get aw
  obtain⟨c',al,aA⟩:=vd place g b6 aj ps bw r _ key lU
  refine⟨c',?_,aA⟩
  simp only[Instr.fill,jE,Mh]
  rw[if_neg (by simp;omega)]
  exact al
theorem Mk{t:TypeId}{n:Nat}(h:cY P t=some n):P.cellsOf t=n:=by
 unfold cY at h
 split at h
 · rename_i i ag;cases h;simp[Program.cellsOf,ag]
 · cases h
theorem run_places(w:World):∀l:List Field,(l.all λf=>(cY P f.type).isSome)=true->
  (l.mapM (λf=>do pure (f.offset,<-_root_.Go.sizeOf f.type):Field->Sem (Nat×Nat))).run P w=.ok (l.map λf=>(f.offset,P.cellsOf f.type)) w
 |[],_=>rfl
 |f::l,h=>by
  simp only[List.all_cons,Bool.and_eq_true] at h
  obtain⟨n,aH⟩:=Option.isSome_iff_exists.1 h.1
  simp only[List.mapM_cons,Sem.run_bind,run_sizeOf aH,Result.andThen_ok,Sem.run_pure,run_places w l h.2,List.map_cons,Mk aH]
theorem Ml(ah:bc μ H w)(g:Operand->I)(b6:Operand->Value)(aj:∀x,a2 μ (g x) (b6 x)){t:TypeId}{z:I}(aP:dt P t=some z){b0:Array Field}(hu:P.underlying t=some (.struct b0))
  (dx:(b0.toList.all λf=>(cY P f.type).isSome)=true)(parts:Array (Nat×Operand)){cs:List I}
  (hf:iz (λi=>(b0[i]?).map λf=>(f.offset,P.cellsOf f.type)) z.cells (parts.toList.map λp=>(p.1,g p.2))=some cs):
  dV P μ H w (Instr.build t (parts.map λ(i,x)=>(i,b6 x))) (.agg cs) H:=by
 obtain⟨v,aD,rfl,ae⟩:=kC (w:=w) aP
 have af:=(iP μ v).cells ae
 obtain⟨c',aa,ad⟩:=vd _ g b6 aj parts.toList _ cs v.cells af hf
 have aL:=run_places (P:=P) w b0.toList dx
 refine .same ah (v':=.agg ⟨c'⟩) ?_ ⟨c',rfl,ad⟩
 have hm:(b0.mapM (λf=>do pure (f.offset,<-_root_.Go.sizeOf f.type):Field->Sem (Nat×Nat))).run P w=.ok (b0.map λf=>(f.offset,P.cellsOf f.type)) w:=by
  obtain⟨l⟩:=b0
  have e:(l.toArray.mapM (λf=>do pure (f.offset,<-_root_.Go.sizeOf f.type):Field->Sem (Nat×Nat)))=List.toArray<$>l.mapM (λf=>do pure (f.offset,<-_root_.Go.sizeOf f.type)):=List.mapM_toArray
  refine(congrArg (λs:Sem (Array (Nat×Nat))=>s.run P w) e).trans ?_
  simp only[Sem.run_map]
  rw[show(Sem.run P (List.mapM (λf=>do pure (f.offset,<-_root_.Go.sizeOf f.type):Field->Sem (Nat×Nat)) l) w)=_ from aL];simp
 have Mm:(λi:Nat=>(b0.map λf=>(f.offset,P.cellsOf f.type))[i]?)=λi=>(b0[i]?).map λf=>(f.offset,P.cellsOf f.type):=by
  funext i;simp
 simp only[Instr.build,Sem.run_bind,aD,Result.andThen_ok,bE hu,hm,Mm,Array.toList_map,aa]
 rfl
theorem Mn(ah:bc μ H w)(g:Operand->I)(b6:Operand->Value)(aj:∀x,a2 μ (g x) (b6 x)){t e:TypeId}{n sz:Nat}{z:I}(aP:dt P t=some z)(hu:P.underlying t=some (.array n e))
  (hs:cY P e=some sz)(parts:Array (Nat×Operand)){cs:List I}
  (hf:iz (λi=>some (i*sz,sz)) z.cells (parts.toList.map λp=>(p.1,g p.2))=some cs):
  dV P μ H w (Instr.build t (parts.map λ(i,x)=>(i,b6 x))) (.agg cs) H:=by
 obtain⟨v,aD,rfl,ae⟩:=kC (w:=w) aP
 have af:=(iP μ v).cells ae
 obtain⟨c',aa,ad⟩:=vd _ g b6 aj parts.toList _ cs v.cells af hf
 refine .same ah (v':=.agg ⟨c'⟩) ?_ ⟨c',rfl,ad⟩
 simp only[Instr.build,Sem.run_bind,aD,Result.andThen_ok,bE hu,run_sizeOf hs,Array.toList_map,aa]
 rfl
theorem Fg{α:Type}(n:Nat)(l:List α):(ew n l).length=n*l.length:=by
 induction n with
 |zero=>simp[ew]
 |succ n a3=>simp[ew,a3,Nat.succ_mul];omega
theorem Fh{α:Type}:∀(n:Nat) (l:List α) (j:Nat),j<n*l.length->(ew n l)[j]? =l[j %l.length]?
 |0,l,j,h=>by simp at h
 |n+1,l,j,h=>by
  simp only[ew]
  by_cases e:j<l.length
  · rw[List.getElem?_append_left e,Nat.mod_eq_of_lt e]
  · rw[List.getElem?_append_right (by omega),Fh n l (j-l.length) (by rw[Nat.succ_mul] at h;omega)]
    have:(j-l.length) %l.length=j %l.length:=by
     have ah:j=(j-l.length)+l.length:=by omega
     conv=>rhs;rw[ah,Nat.add_mod_right]
    rw[this]
theorem ve{lV:List I}{zero:Array Value}(aP:bP μ lV zero.toList){sz:Nat}(hs:lV.length=sz)(n:Nat):
  bP μ (ew n lV) ((Array.range (n*sz)).map (λi=>zero[i %zero.size]!)).toList:=by
 have ar:=aP.length
 have aq:zero.toList.length=zero.size:=by simp
 refine bP.u7 (by rw[Fg,hs];simp) λj a aw=>?_
 have aF:j<n*lV.length:=by
  rcases Nat.lt_or_ge j (n*lV.length) with h|h
  · exact h
  · rw[List.getElem?_eq_none (by rw[Fg];exact h)] at aw;cases aw
 rw[Fh n lV j aF] at aw
 obtain⟨u,hu,ai⟩:=aP.get aw
 refine⟨u,?_,ai⟩
 have vc:0<lV.length:=by
  rcases Nat.eq_zero_or_pos lV.length with h|h
  · rw[h] at aF;simp at aF
  · exact h
 have bX:j %zero.size<zero.size:=Nat.mod_lt _ (by omega)
 have ax:lV.length=zero.size:=by omega
 rw[ax] at hu
 rw[Array.getElem?_toList] at hu
 rw[Array.getElem?_toList,Array.getElem?_map,Array.getElem?_range]
 rw[if_pos (by rw[<-hs];exact aF)]
 simp only[Option.map_some]
 rw[Array.getElem?_eq_getElem bX] at hu
 simp only[Option.some.injEq] at hu
 rw[getElem!_pos zero _ bX,hu]
theorem Mo(ah:bc μ H w)(g:Operand->I)(b6:Operand->Value)(aj:∀x,a2 μ (g x) (b6 x)){t e:TypeId}{len sz:Nat}{z:I}(hu:P.underlying t=some (.slice e))(hs:cY P e=some sz)
  (aP:dt P e=some z)(hle:len*sz<=16777216)(lW:z.cells.length=sz)(parts:Array (Nat×Operand)){cs:List I}
  (hf:iz (λi=>some (i*sz,sz)) (if len*sz=0 then[] else ew len z.cells) (parts.toList.map λp=>(p.1,g p.2))=some cs){b:Nat}{aI:ab}(ai:newRow H e cs=some (b,aI)):
  dV P μ H w (Instr.buildSlice t len (parts.map λ(i,x)=>(i,b6 x))) (.slice b 0 len (.exact len)) aI:=by
 obtain⟨v,aD,rfl,ae⟩:=kC (w:=w) aP
 have af:=(iP μ v).cells ae
 have vf:¬(len*sz>2^24):=by omega
 have key:∀zero:Array Value,bP μ (if len*sz=0 then[] else ew len (mr v).cells) ((Array.range (len*sz)).map (λi=>zero[i %zero.size]!)).toList->
   (∀r:Result Value,r=(match Instr.fill (λi=>some (i*sz,sz)) ((Array.range (len*sz)).map (λi=>zero[i %zero.size]!)) (parts.toList.map λp=>(p.1,b6 p.2)) with
    |some cells=>do pure (.slice (some (<-_root_.Go.newRow e cells)) len len)
    |none=>stuck "buildSlice: a part of the wrong size" :Sem Value).run P w->(Instr.buildSlice t len (parts.map λ(i,x)=>(i,b6 x))).run P w=r)->
   dV P μ H w (Instr.buildSlice t len (parts.map λ(i,x)=>(i,b6 x))) (.slice b 0 len (.exact len)) aI:=by
  intro zero oy dW
  obtain⟨c',aa,ad⟩:=vd _ g b6 aj parts.toList _ cs _ oy hf
  obtain⟨aM,rfl,bo,bF,b4⟩:=xU (P:=P) ah ad ai
  refine⟨_,_,.slice (some ⟨w.heap.size,0,none⟩) len len,?_,⟨_,bo,by simp[AT]⟩,bF,b4⟩
  refine dW _ ?_
  rw[aa]
  simp[aM]
 by_cases h0:len*sz=0
 · refine key #[] (by rw[if_pos h0,h0];simp[bP]) λr ai=>?_
   rw[ai]
   simp only[Instr.buildSlice,Sem.run_bind,bE hu,Result.andThen_ok,run_sizeOf hs,if_neg vf,if_pos h0,Sem.run_pure,Array.toList_map]
   generalize Instr.fill _ _ _=F
   cases F<;>rfl
 · refine key v.cells (by rw[if_neg h0];exact ve af lW len) λr ai=>?_
   rw[ai]
   simp only[Instr.buildSlice,Sem.run_bind,bE hu,Result.andThen_ok,run_sizeOf hs,if_neg vf,if_neg h0,Sem.run_pure,Array.toList_map,aD]
   generalize Instr.fill _ _ _=F
   cases F<;>rfl
end
end a8
namespace a8
open Go
theorem oz(n:Nat)(h:n<9223372036854775808):IntKind.wrap .i64 (n:Int)=(n:Int):=by
 have e:((n:Int) %18446744073709551616)=n:=by omega
 have av:(2:Int)^64=18446744073709551616:=by rfl
 have bq:(2:Int)^63=9223372036854775808:=by rfl
 simp only[IntKind.wrap,IntKind.bits,IntKind.signed,av,bq,e,Bool.true_and,decide_eq_true_eq,Nat.add_one_sub_one]
 rw[if_neg (by show¬((2:Int)^63<=n);rw[bq];omega)]
section
variable {P:Program} {μ:bb} {H:ab} {w:World}
theorem Mp(ah:bc μ H w){t e:TypeId}{l c:Nat}{i:TypeInfo}{z:I}{kl kc:IntKind}(hu:P.underlying t=some (.slice e))(ag:P.info? e=some i)(aP:dt P e=some z)(pH:l<=c)
  (s0:c*(i.bytes+1)<=1099511627776)(lW:z.cells.length=i.size){b:Nat}{aI:ab}(ai:newRow H e (if c*i.size=0 then[] else ew c z.cells)=some (b,aI)):
  dV P μ H w (Instr.makeSlice t (.int kl l) (.int kc c)) (.slice b 0 l (.exact c)) aI:=by
 obtain⟨v,aD,rfl,ae⟩:=kC (w:=w) aP
 have af:=(iP μ v).cells ae
 have A0:c<=1099511627776:=Nat.le_trans (Nat.le_mul_of_pos_right c (by omega)) s0
 have kD:i.bytes*c<=1099511627776:=by
  have:c*i.bytes<=c*(i.bytes+1):=Nat.mul_le_mul_left c (by omega)
  rw[Nat.mul_comm];omega
 have vg:∀n:Nat,n<=1099511627776->IntKind.wrap .i64 (n:Int)=(n:Int):=λn aH=>oz n (by omega)
 have mE:=vg l (by omega)
 have vh:=vg c A0
 have q2:¬((c:Int)<0||(i.bytes:Int)*(c:Int)>2^48||(l:Int)<0||(l:Int)>(c:Int))=true:=by
  have aa:((i.bytes:Int)*(c:Int))<=1099511627776:=by
   have h0:((i.bytes*c:Nat):Int)<=1099511627776:=by omega
   rw[Int.natCast_mul] at h0;exact h0
  have ad:(2:Int)^48=281474976710656:=by rfl
  generalize (i.bytes:Int)*(c:Int)=q at aa⊢
  rw[ad]
  simp only[Bool.or_eq_true,decide_eq_true_eq]
  omega
 have key:∀zero:Array Value,bP μ (if c*i.size=0 then[] else ew c (mr v).cells) ((Array.range (c*i.size)).map (λj=>zero[j %zero.size]!)).toList->
   (Instr.makeSlice t (.int kl l) (.int kc c)).run P w=(do let a<-_root_.Go.newRow e ((Array.range (c*i.size)).map (λj=>zero[j %zero.size]!));pure (.slice (some a) l c):Sem Value).run P w->
   dV P μ H w (Instr.makeSlice t (.int kl l) (.int kc c)) (.slice b 0 l (.exact c)) aI:=by
  intro zero oy dW
  obtain⟨aM,rfl,bo,bF,b4⟩:=xU (P:=P) ah oy ai
  refine⟨_,_,.slice (some ⟨w.heap.size,0,none⟩) l c,?_,⟨_,bo,by simp[AT]⟩,bF,b4⟩
  rw[dW]
  simp only[Sem.run_bind,Sem.run_pure]
  have:(⟨((Array.range (c*i.size)).map (λj=>zero[j %zero.size]!)).toList⟩:Array Value)=((Array.range (c*i.size)).map (λj=>zero[j %zero.size]!)):=rfl
  rw[this] at aM
  rw[aM];rfl
 have bh:(_root_.Go.sizeOf e).run P w=.ok i.size w:=by simp[_root_.Go.sizeOf,run_typeInfo ag]
 by_cases h0:c*i.size=0
 · refine key #[] (by rw[if_pos h0,h0];simp[bP]) ?_
   simp only[Instr.makeSlice,Sem.run_bind,bE hu,Result.andThen_ok,asInt,asIntOf,Sem.run_pure,run_typeInfo ag,mE,vh]
   rw[if_neg q2]
   simp[bh,h0]
 · refine key v.cells (by rw[if_neg h0];exact ve af lW c) ?_
   simp only[Instr.makeSlice,Sem.run_bind,bE hu,Result.andThen_ok,asInt,asIntOf,Sem.run_pure,run_typeInfo ag,mE,vh]
   rw[if_neg q2]
   simp[bh,h0,aD]
theorem Mq{x:I}{v:Value}(aD:a2 μ x v)(J:(∃b o,x=.ptr b o)\/(∃b o n c,x=.slice b o n c)\/(∃f a b,x=.fn f a b)\/∃t y,x=.iface t y):
  ∀(o:Oper) (op:Operand) (b6:Operand->Value),b6 op=v->o.op=.nilCheck op->(execOp b6 o).run P w=.ok (.value v) w:=by
 intro o op b6 Mr aQ
 simp only[execOp,aQ,Mr]
 rcases J with⟨b,o',rfl⟩|⟨b,o',n,c,rfl⟩|⟨f,a,b,rfl⟩|⟨t,y,rfl⟩
 · obtain⟨i,_,rfl⟩:=aD;rfl
 · obtain⟨i,_,af⟩:=aD
   cases c with
   |exact c=>cases af;rfl
   |aS fw=>obtain⟨c,rfl,_⟩:=af;rfl
   |dead=>obtain⟨_,a,c,rfl⟩:=af;rfl
 · obtain⟨b0,cs,rfl,_,_⟩:=aD;rfl
 · obtain⟨Ms,rfl,_⟩:=aD;rfl
theorem Mt(op:BinOp)(t:TypeId)(k:IntKind)(x y:Int)(dO:op≠ .shl/\op≠ .shr):binOp op t (.int k x) (.int k y)=match op with
  |.add|.sub|.mul=>Op.intArith op k x y
  |.quo|.rem=>Op.intDiv op k x y
  |.and|.or|.xor|.andNot=>Op.intBits op k x y
  |_=>Op.intCmp op x y:=by
 cases op<;>first
  |(exact absurd rfl dO.1)
  |(exact absurd rfl dO.2)
  |simp[binOp]
theorem Mu{op:BinOp}{k:IntKind}{x y:Int}{v:I}(h:arith op k x y=some v)(dO:op≠ .shl/\op≠ .shr)(t:TypeId):
  ∃u,(binOp op t (.int k x) (.int k y)).run P w=.ok u w/\a2 μ v u:=by
 rw[Mt op t k x y dO]
 cases op<;>simp only[arith] at h
 case shl=>cases h
 case shr=>cases h
 case quo=>
  split at h
  · cases h
  · rename_i aO;cases h;exact⟨_,by simp only[Op.intDiv,if_neg aO];rfl,rfl⟩
 case rem=>
  split at h
  · cases h
  · rename_i aO;cases h;exact⟨_,by simp only[Op.intDiv,if_neg aO];rfl,rfl⟩
 all_goals (cases h;exact⟨_,rfl,rfl⟩)
theorem Fi{op:BinOp}{k dA:IntKind}{x y:Int}{v:I}(h:pq op k x y=some v)(t:TypeId):
  ∃u,(binOp op t (.int k x) (.int dA y)).run P w=.ok u w/\a2 μ v u:=by
 unfold pq at h
 split at h
 · cases h
 · rename_i aO
   cases op<;>simp only[] at h<;>first
    |(cases h;done)
    |(cases h;exact⟨_,by simp[binOp,Op.shift,aO],rfl⟩)
theorem Fj(b:ByteArray):∀(n i:Nat) (r:List UInt8),b.size-i=n->ByteArray.toList.loop b i r=r.reverse++b.data.toList.drop i
 |0,i,r,h=>by
  rw[ByteArray.toList.loop]
  have hs:b.data.toList.length=b.size:=Array.length_toList
  rw[if_neg (by omega),List.drop_eq_nil_of_le (by omega)];simp
 |n+1,i,r,h=>by
  rw[ByteArray.toList.loop]
  have hs:b.data.toList.length=b.size:=Array.length_toList
  rw[if_pos (by omega),Fj b n (i+1) _ (by omega)]
  rw[List.drop_eq_getElem_cons (i:=i) (by omega)]
  have:b.get! i=b.data.toList[i]'(by omega):=by
   have ad:i<b.data.size:=by have:=Array.length_toList (xs:=b.data);omega
   show b.data[i]! =_
   rw[getElem!_pos b.data i ad];simp
  simp[this]
theorem pI(s:ByteArray):s.toList=s.data.toList:=by
 unfold ByteArray.toList
 rw[Fj s _ 0 [] rfl];simp
theorem nF:∀a b:List UInt8,dv a b=(a==b)
 |[],[]=>rfl
 |[],_::_=>rfl
 |_::_,[]=>rfl
 |a::x,b::y=>by
  have a3:=nF x y
  simp only[dv,List.cons_beq_cons]
  cases e:Nat.beq a.toNat b.toNat with
  |true=>
   have:a=b:=UInt8.toNat_inj.1 (Nat.eq_of_beq_eq_true e)
   subst this;simp[a3]
  |false=>
   have:(a==b)=false:=by
    rw[beq_eq_false_iff_ne];intro h;subst h;simp at e
   simp[this]
theorem A1:∀a b:List UInt8,eR a b=Op.bytesLess a b
 |[],[]=>rfl
 |[],_::_=>rfl
 |_::_,[]=>rfl
 |a::x,b::y=>by
  have a3:=A1 x y
  simp only[eR,Op.bytesLess]
  cases e:Nat.beq a.toNat b.toNat with
  |true=>
   have:a=b:=UInt8.toNat_inj.1 (Nat.eq_of_beq_eq_true e)
   subst this;simp[a3]
  |false=>
   have aa:(a==b)=false:=by
    rw[beq_eq_false_iff_ne];intro h;subst h;simp at e
   have ad:decide (a<b)=Nat.blt a.toNat b.toNat:=by
    rw[Bool.eq_iff_iff];simp[UInt8.lt_iff_toNat_lt]
   simp[aa,ad]
theorem Fk:∀a b:List UInt8,(Op.bytesLess a b||(a==b))=!Op.bytesLess b a
 |[],[]=>rfl
 |[],_::_=>rfl
 |_::_,[]=>rfl
 |a::x,b::y=>by
  have a3:=Fk x y
  simp only[Op.bytesLess,List.cons_beq_cons]
  by_cases h:a=b
  · subst h
    have:¬(a<a):=UInt8.lt_irrefl a
    simpa[this] using a3
  · have cF:(a==b)=false:=beq_eq_false_iff_ne.2 h
    have Mv:(b==a)=false:=beq_eq_false_iff_ne.2 (λe=>h e.symm)
    simp only[cF,Mv,Bool.false_and,Bool.or_false]
    rw[Bool.eq_iff_iff]
    simp only[decide_eq_true_eq,Bool.not_eq_true',decide_eq_false_iff_not,UInt8.lt_iff_toNat_lt]
    have:a.toNat≠b.toNat:=λe=>h (UInt8.toNat_inj.1 e)
    omega
theorem Mw{op:BinOp}{a b:ByteArray}{v:I}(h:qP op a.data.toList b.data.toList=some v)(t:TypeId):∃u,(binOp op t (.string a) (.string b)).run P w=.ok u w/\a2 μ v u:=by
 have aw:=pI a
 have ae:=pI b
 have aa:=nF a.data.toList b.data.toList
 have ad:=A1 a.data.toList b.data.toList
 have aq:=A1 b.data.toList a.data.toList
 have bm:=Fk a.data.toList b.data.toList
 have pJ:a.data.toList.length=a.size:=Array.length_toList
 have Mx:b.data.toList.length=b.size:=Array.length_toList
 cases op<;>simp only[qP] at h
 case add=>
  split at h
  · cases h
  · rename_i ar
    cases h
    refine⟨.string (a++b),?_,⟨a++b,rfl,by simp[ByteArray.data_append]⟩⟩
    rw[pJ,Mx] at ar
    simp only[binOp,Op.stringOp]
    rw[if_neg ar];rfl
 case eql=>cases h;exact⟨_,rfl,congrArg Value.bool (by rw[aw,ae,aa])⟩
 case neq=>cases h;exact⟨_,rfl,congrArg Value.bool (by rw[aw,ae,aa])⟩
 case lss=>cases h;exact⟨_,rfl,congrArg Value.bool (by rw[aw,ae,ad])⟩
 case leq=>cases h;exact⟨_,rfl,congrArg Value.bool (by rw[aw,ae,aq];exact bm)⟩
 case gtr=>cases h;exact⟨_,rfl,congrArg Value.bool (by rw[aw,ae,aq,bm,Bool.not_not])⟩
 case geq=>cases h;exact⟨_,rfl,congrArg Value.bool (by rw[aw,ae,ad])⟩
 all_goals cases h
def lX(μ:bb):Option I->Option Value->Prop
 |none,none=>True
 |some a,some v=>a2 μ a v
 |_,_=>False
theorem lX.map(g:Operand->I)(b6:Operand->Value)(aj:∀x,a2 μ (g x) (b6 x))(o:Option Operand):lX μ (o.map g) (o.map b6):=by
 cases o with
 |none=>trivial
 |some x=>exact aj x
theorem Fl{a:I}{n:Nat}(h:eb a=some n){v:Value}(aD:a2 μ a v):∃k,v=.int k (n:Int):=by
 unfold eb at h
 split at h
 · rename_i k m;cases h;exact⟨k,aD⟩
 · cases h
theorem A2{n y:Nat}{k:IntKind}(h:n<=y)(c:BoundsCode):(Instr.sliceBound (.int k (n:Int)) y c).run P w=.ok n w:=by
 simp only[Instr.sliceBound,asIntOf,Sem.run_bind,Sem.run_pure,Result.andThen_ok]
 rw[if_pos ⟨by omega,by omega⟩]
 simp
theorem Fm{d n:Nat}{o:Option I}{o':Option Value}(h:g3 d o=some n)(ai:lX μ o o'):(o'=none/\n=d/\o=none)\/∃k a,o=some a/\o'=some (.int k (n:Int)):=by
 cases o with
 |none=>cases o' with
  |none=>simp[g3] at h;exact .inl ⟨rfl,h.symm,rfl⟩
  |some _=>exact ai.elim
 |some a=>cases o' with
  |none=>exact ai.elim
  |some v=>obtain⟨k,e⟩:=Fl (μ:=μ) h ai;exact .inr ⟨k,a,rfl,by rw[e]⟩
theorem mF{len cap l h m:Nat}{aY ag mx:Option I}{s3 ey mx':Option Value}(jF:lX μ aY s3)(iT:lX μ ag ey)(hC:lX μ mx mx')
  (ae:bounds len cap aY ag mx=some (l,h,m))(b:Bool):(Instr.sliceBounds b len cap s3 ey mx').run P w=.ok (l,h,m) w/\l<=h/\h<=m/\m<=cap/\(mx=none->m=cap):=by
 unfold bounds at ae
 cases em:g3 cap mx with
 |none=>rw[em] at ae;cases ae
 |some aR=>
  rw[em] at ae
  simp only at ae
  cases hm:Nat.ble aR cap with
  |false=>rw[hm] at ae;cases ae
  |true=>
   rw[hm] at ae
   simp only at ae
   have s4:=Nat.le_of_ble_eq_true hm
   split at ae
   · cases ae
   · rename_i ah xV
     cases A3:Nat.ble ah aR with
     |false=>rw[A3] at ae;cases ae
     |true=>
      rw[A3] at ae
      simp only at ae
      have Fo:=Nat.le_of_ble_eq_true A3
      cases el:g3 0 aY with
      |none=>rw[el] at ae;cases ae
      |some bW=>
       rw[el] at ae
       simp only at ae
       cases ar:Nat.ble bW ah with
       |false=>rw[ar] at ae;cases ae
       |true=>
        rw[ar] at ae
        simp only[Option.some.injEq,Prod.mk.injEq] at ae
        obtain⟨rfl,rfl,rfl⟩:=ae
        have s5:=Nat.le_of_ble_eq_true ar
        have My:(ey=none/\mx'=none/\ah=len)\/∃k,ey=some (.int k (ah:Int)):=by
         cases ag with
         |none=>cases ey with
          |some _=>exact iT.elim
          |none=>cases mx with
           |some _=>simp at xV
           |none=>cases mx' with
            |some _=>exact hC.elim
            |none=>simp at xV;exact .inl ⟨rfl,rfl,xV.symm⟩
         |some a=>cases ey with
          |none=>exact iT.elim
          |some v=>
           have gi:eb a=some ah:=by cases mx<;>simpa using xV
           obtain⟨k,e⟩:=Fl (μ:=μ) gi iT
           exact .inr ⟨k,by rw[e]⟩
        refine⟨?_,s5,Fo,s4,λe=>by rw[e] at em;simp[g3] at em;exact em.symm⟩
        rcases Fm em hC with⟨ax,av,_⟩|⟨bJ,_,_,ax⟩<;>rcases My with⟨bq,dD,iR⟩|⟨bR,bq⟩<;>rcases Fm el jF with⟨iS,iA,_⟩|⟨e_,_,_,iS⟩<;>
         first
         |(exfalso;simp[ax] at dD;done)
         |(subst_vars;simp[Instr.sliceBounds,A2 s4,A2 Fo,A2 s5])
end
end a8
namespace a8
open Go
section
variable {P:Program} {μ:bb} {H:ab} {w:World}
theorem Mz(t:ByteArray)(l h:Nat)(ah:h<=t.size):(t.extract l h).data.toList=List.take (h-l) (ih l t.data.toList):=by
 rw[lR]
 simp only[ByteArray.data_extract,Array.toList_extract,List.extract_eq_take_drop]
theorem vi{m n:Nat}(h:m<=n):Nat.ble m n=true:=Nat.ble_eq_true_of_le h
theorem A4{len k c:Nat}{aY ag mx:Option I}{l h m:Nat}(ae:bounds len k aY ag mx=some (l,h,m))(an:k<=c):bounds len c aY ag mx=some (l,h,if mx.isNone then c else m):=by
 have fin:∀(aR bD:Nat) (E:Option Nat),aR<=bD->
   (match E with
   |none=>none
   |some ah=>match Nat.ble ah aR with
    |false=>none
    |true=>match g3 0 aY with
     |none=>none
     |some l=>match Nat.ble l ah with
      |false=>none
      |true=>some (l,ah,aR))=some (l,h,m)->
   (match E with
   |none=>none
   |some ah=>match Nat.ble ah bD with
    |false=>none
    |true=>match g3 0 aY with
     |none=>none
     |some l=>match Nat.ble l ah with
      |false=>none
      |true=>some (l,ah,bD))=some (l,h,bD):=by
  intro aR bD E hm eI
  cases E with
  |none=>cases eI
  |some ah=>
   simp only at eI⊢
   cases aa:Nat.ble ah aR with
   |false=>rw[aa] at eI;cases eI
   |true=>
    rw[aa] at eI
    rw[vi (Nat.le_trans (Nat.le_of_ble_eq_true aa) hm)]
    simp only at eI⊢
    cases ar:g3 0 aY with
    |none=>rw[ar] at eI;cases eI
    |some bW=>
     rw[ar] at eI
     simp only at eI⊢
     cases aC:Nat.ble bW ah with
     |false=>rw[aC] at eI;cases eI
     |true=>rw[aC] at eI;simp only[Option.some.injEq,Prod.mk.injEq] at eI⊢;exact⟨eI.1,eI.2.1,trivial⟩
 unfold bounds at ae⊢
 cases mx with
 |none=>
  have ax:g3 k none=some k:=rfl
  have av:g3 c none=some c:=rfl
  rw[ax] at ae;rw[av]
  simp only at ae⊢
  rw[vi (Nat.le_refl k)] at ae;rw[vi (Nat.le_refl c)]
  simp only[Option.isNone_none,if_true] at ae⊢
  cases ag with
  |none=>exact fin k c (some len) an ae
  |some a=>exact fin k c (eb a) an ae
 |some q3=>
  have ax:g3 k (some q3)=eb q3:=rfl
  have av:g3 c (some q3)=eb q3:=rfl
  rw[ax] at ae;rw[av]
  cases em:eb q3 with
  |none=>rw[em] at ae;cases ae
  |some aR=>
   rw[em] at ae
   simp only at ae⊢
   cases aa:Nat.ble aR k with
   |false=>rw[aa] at ae;cases ae
   |true=>
    rw[aa] at ae
    rw[vi (Nat.le_trans (Nat.le_of_ble_eq_true aa) an)]
    simp only[Option.isNone_some,Bool.false_eq_true,if_false] at ae⊢
    have MA:aR=m:=by
     cases ag<;>simp only at ae
     · cases ae
     · split at ae<;>try cases ae
       split at ae<;>try cases ae
       split at ae<;>try cases ae
       split at ae<;>first|cases ae;rfl|cases ae
    subst MA
    cases ag<;>exact ae
theorem MB(ah:bc μ H w){t:TypeId}{x:I}{bj:Value}(J:a2 μ x bj){aY ag mx:Option I}{s3 ey mx':Option Value}(jF:lX μ aY s3)(iT:lX μ ag ey)(hC:lX μ mx mx'){v:I}
  (h:ec P H t x aY ag mx=some v):dV P μ H w (Instr.sliceAt t bj s3 ey mx') v H:=by
 unfold ec at h
 split at h
 ·
  rename_i s hu
  obtain⟨bs,rfl,rfl⟩:=J
  cases mx with
  |some _=>cases h
  |none=>
   simp only at h
   cases mx' with
   |some _=>exact hC.elim
   |none=>
    split at h
    · rename_i l ae m fa
      cases h
      have bh:bs.data.toList.length=bs.size:=Array.length_toList
      rw[bh] at fa
      obtain⟨r1,r2,dJ,gj,_⟩:=mF (P:=P) (w:=w) jF iT (μ:=μ) (mx:=none) (mx':=none) trivial fa false
      refine .same ah (v':=.string (bs.extract l ae)) ?_ ⟨_,rfl,Mz _ _ _ (by omega)⟩
      simp[Instr.sliceAt,Instr.slice,bE hu,r1]
    · cases h
 ·
  rename_i e hu
  cases J
  split at h
  · rename_i sz r hs fa
    cases h
    obtain⟨l,ae,m⟩:=r
    obtain⟨r1,r2,dJ,gj,_⟩:=mF (P:=P) (w:=w) jF iT hC fa true
    have:m=0/\l=0/\ae=0:=by omega
    obtain⟨rfl,rfl,rfl⟩:=this
    exact .same ah (v':=.slice none 0 0) (by simp[Instr.sliceAt,Instr.slice,bE hu,r1,run_sizeOf hs]) rfl
  · cases h
 ·
  rename_i e b off len cap hu
  obtain⟨i,lY,af⟩:=J
  cases af
  split at h
  · rename_i sz l ae m hs fa
    cases h
    obtain⟨r1,r2,dJ,gj,_⟩:=mF (P:=P) (w:=w) jF iT hC fa true
    refine .same ah (v':=.slice (some ⟨i.a1,i.base+(if m=l then off else off+l*sz),none⟩) (ae-l) (m-l)) ?_ ⟨i,lY,rfl⟩
    by_cases e:m=l
    · simp[Instr.sliceAt,Instr.slice,bE hu,r1,run_sizeOf hs,e]
    · simp[Instr.sliceAt,Instr.slice,bE hu,r1,run_sizeOf hs,e,add_plain,Nat.add_assoc]
  · cases h
 ·
  rename_i e b off len fw hu
  obtain⟨i,lY,c,rfl,pH,bh⟩:=J
  split at h
  · rename_i sz hs
    split at h
    · rename_i MC
      subst MC
      cases mx with
      |none=>
       cases mx' with
       |some _=>exact hC.elim
       |none=>
        simp only at h
        split at h
        · rename_i l ae m fa
          have vj:bounds len c aY ag none=some (l,ae,c):=A4 fa pH
          obtain⟨r1,r2,dJ,gj,_⟩:=mF (P:=P) (w:=w) jF iT (μ:=μ) (mx:=none) (mx':=none) trivial vj true
          obtain⟨_,ba,b1,gy,_⟩:=mF (P:=P) (w:=w) jF iT (μ:=μ) (mx:=none) (mx':=none) trivial fa true
          have dW:(Instr.sliceAt t (.slice (some ⟨i.a1,i.base+off,none⟩) len c) s3 ey none).run P w=.ok (.slice (some (if c=l then⟨i.a1,i.base+off,none⟩ else⟨i.a1,i.base+off+l*sz,none⟩)) (ae-l) (c-l)) w:=by
           by_cases e:c=l
           · subst e;simp[Instr.sliceAt,Instr.slice,bE hu,r1,run_sizeOf hs]
           · simp[Instr.sliceAt,Instr.slice,bE hu,r1,run_sizeOf hs,e,add_plain]
          split at h
          · rename_i xW
            subst xW
            cases h
            refine .same ah dW ⟨i,lY,c,?_,by omega,bh⟩
            by_cases e:c=0
            · simp[e]
            · simp[e]
          · rename_i xW
            split at h
            · rename_i bX
              cases h
              simp only[Nat.blt_eq] at bX
              refine .same ah dW ⟨i,lY,c-l,?_,by omega,?_⟩
              · rw[if_neg (by omega)];simp[Nat.add_assoc]
              · have:c*sz=l*sz+(c-l)*sz:=by rw[<-Nat.add_mul];congr 1;omega
                omega
            · rename_i bX
              cases h
              have A5:¬l<len:=by simpa[Nat.blt_eq] using bX
              have h0:ae-l=0:=by omega
              rw[h0] at dW
              exact .same ah dW ⟨i,lY,rfl,_,c-l,rfl⟩
        · cases h
      |some q3=>
       simp only at h
       split at h
       · rename_i l ae m fa
         cases h
         obtain⟨_,ba,b1,gy,_⟩:=mF (P:=P) (w:=w) jF iT hC fa true
         have vj:bounds len c aY ag (some q3)=some (l,ae,m):=A4 fa pH
         obtain⟨r1,r2,dJ,gj,_⟩:=mF (P:=P) (w:=w) jF iT hC vj true
         refine .same ah (v':=.slice (some ⟨i.a1,i.base+(if m=l then off else off+l*sz),none⟩) (ae-l) (m-l)) ?_ ⟨i,lY,rfl⟩
         by_cases e:m=l
         · simp[Instr.sliceAt,Instr.slice,bE hu,r1,run_sizeOf hs,e]
         · simp[Instr.sliceAt,Instr.slice,bE hu,r1,run_sizeOf hs,e,add_plain,Nat.add_assoc]
       · cases h
    · cases h
  · cases h
 ·
  rename_i e b off len hu
  obtain⟨i,lY,rfl,a,c,rfl⟩:=J
  split at h
  · rename_i sz r hs fa
    cases h
    obtain⟨l,ae,m⟩:=r
    obtain⟨_,ba,b1,gy,iU⟩:=mF (P:=P) (w:=w) jF iT hC fa true
    have:m=0/\l=0/\ae=0:=by omega
    obtain⟨rfl,rfl,rfl⟩:=this
    have vj:bounds 0 c aY ag mx=some (0,0,(if mx.isNone then c else 0)):=A4 fa (Nat.zero_le _)
    obtain⟨r1,r2,dJ,gj,_⟩:=mF (P:=P) (w:=w) jF iT hC vj true
    refine .same ah (v':=.slice (some a) 0 ((if mx.isNone then c else 0)-0)) ?_ ⟨i,lY,rfl,a,_,rfl⟩
    have aw:a.add (0*sz)=a:=by simp[Addr.add]
    simp[Instr.sliceAt,Instr.slice,bE hu,r1,run_sizeOf hs,Addr.add]
  · cases h
 ·
  rename_i n e b off hu
  obtain⟨i,lY,rfl⟩:=J
  split at h
  · rename_i sz l ae m hs fa
    cases h
    obtain⟨r1,r2,dJ,gj,_⟩:=mF (P:=P) (w:=w) jF iT hC fa false
    refine .same ah (v':=.slice (some ⟨i.a1,i.base+(if m=l then off else off+l*sz),none⟩) (ae-l) (m-l)) ?_ ⟨i,lY,rfl⟩
    by_cases e:m=l
    · simp[Instr.sliceAt,Instr.sureAddr,bE hu,r1,run_sizeOf hs,e]
    · simp[Instr.sliceAt,Instr.sureAddr,bE hu,r1,run_sizeOf hs,e,add_plain,Nat.add_assoc]
  · cases h
 ·
  rename_i arr b off hu
  obtain⟨i,lY,rfl⟩:=J
  split at h
  · rename_i n e nG
    split at h
    · rename_i sz l ae m hs fa
      cases h
      obtain⟨r1,r2,dJ,gj,_⟩:=mF (P:=P) (w:=w) jF iT hC fa false
      refine .same ah (v':=.slice (some ⟨i.a1,i.base+(if m=l then off else off+l*sz),none⟩) (ae-l) (m-l)) ?_ ⟨i,lY,rfl⟩
      by_cases e:m=l
      · simp[Instr.sliceAt,Instr.slice,asAddr,bE hu,bE nG,r1,run_sizeOf hs,e]
      · simp[Instr.sliceAt,Instr.slice,asAddr,bE hu,bE nG,r1,run_sizeOf hs,e,add_plain,Nat.add_assoc]
    · cases h
  · cases h
 · cases h
theorem pK{t:TypeId}{off:Nat}{cs:List I}{l:List Value}(ar:bP μ cs l){v:I}(h:hP P t cs off=some v):∃u,(part t ⟨l⟩ off).run P w=.ok u w/\a2 μ v u:=by
 unfold hP at h
 split at h
 · rename_i n aw aH
   split at h
   · rename_i r ai
     cases h
     rw[lR] at ai
     obtain⟨aa,rfl⟩:=qZ _ _ _ ai
     refine⟨.agg ⟨(l.drop off).take n⟩,?_,⟨_,rfl,?_⟩⟩
     · simp[part,sZ aw,run_sizeOf aH,List.extract_eq_take_drop]
     · refine bP.u7 (by have:=ar.length;simp[this]) λj a aF=>?_
       rw[List.getElem?_take] at aF⊢
       split at aF
       · rename_i A6
         rw[if_pos A6]
         rw[List.getElem?_drop] at aF⊢
         exact ar.get aF
       · cases aF
   · cases h
 · rename_i _ aw
   rw[ow] at h
   obtain⟨u,hu,ai⟩:=ar.get h
   refine⟨u,?_,ai⟩
   simp[part,sZ aw,hu]
 · cases h
theorem MD(ah:bc μ H w){t:TypeId}{b0:Array Field}{fd:Field}{f:Nat}(hu:P.underlying t=some (.struct b0))(hf:b0[f]? =some fd){cs:List I}{bj:Value}(J:a2 μ (.agg cs) bj){v:I}
  (h:hP P fd.type cs fd.offset=some v):dV P μ H w (Instr.field t bj f) v H:=by
 obtain⟨l,rfl,ar⟩:=J
 obtain⟨u,aa,ad⟩:=pK (P:=P) (w:=w) ar h
 exact .same ah (v':=u) (by simp[Instr.field,bE hu,hf,asAgg,aa]) ad
theorem ME(ah:bc μ H w){s:TypeId}{b0:Array Field}{fd:Field}{f n b off:Nat}(hu:P.underlying s=some (.struct b0))(hf:b0[f]? =some fd)(aH:cY P fd.type=some n)(vk:n≠0){bj:Value}
  (J:a2 μ (.ptr b off) bj):dV P μ H w (Instr.fieldAt s bj f) (.ptr b (off+fd.offset)) H:=by
 obtain⟨i,ag,rfl⟩:=J
 refine .same ah (v':=.pointer (some ⟨i.a1,i.base+(off+fd.offset),none⟩)) ?_ ⟨i,ag,rfl⟩
 simp[Instr.fieldAt,bE hu,hf,Instr.sureAddr,fieldPlace,run_sizeOf aH,vk,add_plain,Nat.add_assoc]
theorem MF(ah:bc μ H w){t e:TypeId}{b off n k sz:Nat}{c:c7}{b2:IntKind}(hu:P.underlying t=some (.slice e))(hs:cY P e=some sz){bj:Value}(J:a2 μ (.slice b off n c) bj)(an:k<n):
  dV P μ H w (Instr.indexAt t bj (.int b2 (k:Int))) (.ptr b (off+k*sz)) H:=by
 obtain⟨i,ag,af⟩:=J
 have jk:∃cap,bj=.slice (some ⟨i.a1,i.base+off,none⟩) n cap:=by
  cases c with
  |exact c=>exact⟨c,af⟩
  |aS fw=>obtain⟨c,h,_⟩:=af;exact⟨c,h⟩
  |dead=>obtain⟨h0,_⟩:=af;omega
 obtain⟨cap,rfl⟩:=jk
 refine .same ah (v':=.pointer (some ⟨i.a1,i.base+(off+k*sz),none⟩)) ?_ ⟨i,ag,rfl⟩
 simp only[Instr.indexAt,asIntOf,Sem.run_bind,Sem.run_pure,Result.andThen_ok,bE hu]
 rw[if_pos ⟨by omega,by omega⟩]
 simp[run_sizeOf hs,add_plain,Nat.add_assoc]
theorem MG(ah:bc μ H w){t e:TypeId}{b off n k sz:Nat}{b2:IntKind}(hu:P.underlying t=some (.array n e))(hs:cY P e=some sz){bj:Value}(J:a2 μ (.ptr b off) bj)(an:k<n):
  dV P μ H w (Instr.indexAt t bj (.int b2 (k:Int))) (.ptr b (off+k*sz)) H:=by
 obtain⟨i,ag,rfl⟩:=J
 refine .same ah (v':=.pointer (some ⟨i.a1,i.base+(off+k*sz),none⟩)) ?_ ⟨i,ag,rfl⟩
 simp only[Instr.indexAt,asIntOf,Sem.run_bind,Sem.run_pure,Result.andThen_ok,bE hu,Instr.sureAddr]
 rw[if_pos ⟨by omega,by omega⟩]
 simp[run_sizeOf hs,add_plain,Nat.add_assoc]
theorem MH(ah:bc μ H w){t e:TypeId}{n k sz:Nat}{b2:IntKind}{cs:List I}(hu:P.underlying t=some (.array n e))(hs:cY P e=some sz){bj:Value}(J:a2 μ (.agg cs) bj)(an:k<n){v:I}
  (h:hP P e cs (k*sz)=some v):dV P μ H w (Instr.index t bj (.int b2 (k:Int))) v H:=by
 obtain⟨l,rfl,ar⟩:=J
 obtain⟨u,aa,ad⟩:=pK (P:=P) (w:=w) ar h
 refine .same ah (v':=u) ?_ ad
 simp only[Instr.index,asIntOf,Sem.run_bind,Sem.run_pure,Result.andThen_ok,bE hu]
 rw[if_pos ⟨by omega,by omega⟩]
 simp[run_sizeOf hs,aa]
theorem MI(ah:bc μ H w){t:TypeId}{k:Nat}{b2:IntKind}{s:List UInt8}(hu:P.underlying t=some .string){bj:Value}(J:a2 μ (.str s) bj){c:UInt8}(h:nth k s=some c):
  dV P μ H w (Instr.index t bj (.int b2 (k:Int))) (.int .u8 (Int.ofNat c.toNat)) H:=by
 obtain⟨bs,rfl,rfl⟩:=J
 rw[ow] at h
 refine .same ah (v':=.int .u8 (c.toNat:Int)) ?_ rfl
 have an:k<bs.data.size:=by
  rcases Nat.lt_or_ge k bs.data.size with ao|ao
  · exact ao
  · rw[List.getElem?_eq_none (by simpa using ao)] at h;cases h
 have aj:bs[k]? =some c:=by
  rw[Array.getElem?_toList] at h
  rw[<-h]
  show(if h:k<bs.size then some bs[k] else none)=_
  have ek:k<bs.size:=an
  rw[dif_pos ek,Array.getElem?_eq_getElem an];rfl
 simp only[Instr.index,asIntOf,Sem.run_bind,Sem.run_pure,Result.andThen_ok,bE hu]
 rw[if_pos (by omega)]
 simp[aj]
end
end a8
namespace a8
open Go
section
variable {P:Program} {μ:bb} {H:ab} {w:World}
theorem xX(μ:bb):∀l:List UInt8,bP μ (cI l) (l.map λb=>.int .u8 b.toNat)
 |[]=>rfl
 |b::l=>⟨_,_,rfl,rfl,xX μ l⟩
theorem MJ(t:ByteArray):(t.extract 0 t.size)=t:=by
 obtain⟨d⟩:=t
 simp[ByteArray.ext_iff,ByteArray.data_extract,ByteArray.size]
theorem xY(ah:bc μ H w){size n:Nat}{x:I}{bj:Value}(J:a2 μ x bj){cs:List I}(h:fF H size x=some (n,cs)):
  (Builtin.lenOf bj).run P w=.ok n w/\(∃us:List Value,(Builtin.firstCells size n bj).run P w=.ok ⟨us⟩ w/\bP μ cs us):=by
 cases x<;>simp only[fF] at h<;>try cases h
 · split at h<;>try cases h
   obtain⟨bs,rfl,rfl⟩:=J
   refine⟨by rw[show bs.data.toList.length=bs.size from Array.length_toList];rfl,_,?_,xX μ _⟩
   have bh:bs.data.toList.length=bs.size:=Array.length_toList
   simp only[Builtin.firstCells,Sem.run_pure,bh,MJ]
   congr 1
   apply Array.ext'
   simp
 · cases J
   exact⟨rfl,[],rfl,rfl⟩
 · rename_i b off len cap
   obtain⟨i,ag,af⟩:=J
   cases cap with
   |dead=>
    obtain⟨rfl,a,c,rfl⟩:=af
    simp at h
    obtain⟨rfl,rfl⟩:=h
    exact⟨rfl,[],by simp[Builtin.firstCells,_root_.Go.loadCells,loadCellsFrom],rfl⟩
   |exact c=>
    cases af
    simp only at h
    split at h
    · rename_i bw ar
      cases h
      obtain⟨us,aa,ad⟩:=pF (P:=P) ah ag ar
      exact⟨rfl,us,by simp only[Builtin.firstCells];exact aa,ad⟩
    · cases h
   |aS fw=>
    obtain⟨c,rfl,_⟩:=af
    simp only at h
    split at h
    · rename_i bw ar
      cases h
      obtain⟨us,aa,ad⟩:=pF (P:=P) ah ag ar
      exact⟨rfl,us,by simp only[Builtin.firstCells];exact aa,ad⟩
    · cases h
theorem MK{z:Value}(n:Nat){lV:List I}(aP:bP μ lV z.cells.toList):bP μ (ew n lV) (Builtin.zeroCells z.cells n).toList:=by
 have:=ve aP rfl n
 have ar:=aP.length
 have aq:z.cells.toList.length=z.cells.size:=by simp
 rw[ar,aq] at this
 exact this
theorem ML(need old:Nat)(h:old<need):Builtin.nextslicecap need old<=4*need+2048:=by
 unfold Builtin.nextslicecap
 split
 · omega
 · split
   · omega
   · have aj:∀rounds c,c<=2*need+768->(∀k,k<=rounds->True)->Builtin.growBy need rounds c<=4*need+2048:=by
       intro rounds
       induction rounds with
       |zero=>intro c af _;simp only[Builtin.growBy];omega
       |succ r a3=>
        intro c af _
        simp only[Builtin.growBy]
        split
        · omega
        · rename_i bX
          exact a3 _ (by omega) (λ_ _=>trivial)
     exact aj 4 old (by omega) (λ_ _=>trivial)
theorem bc.MM{w':World}(h:bc μ H w){b:Nat}{o o':cX}{i:ee}(ae:H.get b=some o)(fk:o.nB=false)(ag:μ b=some i)
  (hs:w'.heap.size=w.heap.size)(aQ:∀r,r≠i.a1->w'.heap[r]? =w.heap[r]?)(u_:w'.os=w.os)(AX:w'.output=w.output)(AY:w'.tape=w.tape)(base sz:Nat)
  (ai:nA (eG μ H.n ⟨i.a1,base,sz⟩) o' ⟨i.a1,base,sz⟩ w')(hdr:w.drawn<=w'.drawn:=by first|exact Nat.le_refl _|assumption):
  bc (eG μ H.n ⟨i.a1,base,sz⟩) ((H.set b none).push o') w'/\bN μ H w (eG μ H.n ⟨i.a1,base,sz⟩) ((H.set b none).push o') w':=by
 have hle:=h.mB ⟨i.a1,base,sz⟩
 have q4:b<H.n:=(h.lt b i ag).1
 have sY:H.get b≠none:=by rw[ae];simp
 have gQ:∀c,((H.set b none).push o').get c=if c=H.n then some o' else if c=b then none else H.get c:=λc=>by
  rw[ab.fA,ab.cD];rfl
 have ov:∀c,c<H.n->((H.set b none).push o').get c≠none->c≠b/\H.get c≠none:=λc af aH=>by
  rw[gQ,if_neg (by omega)] at aH
  by_cases e:c=b
  · rw[if_pos e] at aH;exact absurd rfl aH
  · rw[if_neg e] at aH;exact⟨e,aH⟩
 constructor
 · refine⟨λc iQ j af aF=>?_,λc d j k af ak aF an e=>?_,λc j aF=>?_,λc af=>?_⟩
   · rw[gQ] at af
     by_cases e:c=H.n
     · rw[if_pos e] at af;subst e;cases af;rw[fl] at aF;cases aF;exact ai
     · rw[if_neg e] at af;rw[gh _ _ e] at aF
       by_cases av:c=b
       · rw[if_pos av] at af;cases af
       · rw[if_neg av] at af
         exact(h.rel c iQ j af aF).mono hle (aQ _ λcn=>av (h.inj c b j i (by rw[af];simp) ⟨o,ae,fk⟩ aF ag cn))
   · have side:∀c j,c≠H.n->((H.set b none).push o').get c≠none->eG μ H.n ⟨i.a1,base,sz⟩ c=some j->j.a1≠i.a1:=λc j pL af aF e=>by
       rw[gh _ _ pL] at aF
       obtain⟨aV,ba⟩:=ov c (h.lt c j aF).1 af
       exact aV (h.inj c b j i ba ⟨o,ae,fk⟩ aF ag e)
     by_cases ax:c=H.n
     · by_cases av:d=H.n
       · rw[ax,av]
       · subst ax;rw[fl] at aF;cases aF
         exact absurd e.symm (side d k av (by obtain⟨x,J,_⟩:=ak;rw[J];simp) an)
     · by_cases av:d=H.n
       · subst av;rw[fl] at an;cases an
         exact absurd e (side c j ax af aF)
       · rw[gh _ _ ax] at aF;rw[gh _ _ av] at an
         exact h.inj c d j k (ov c (h.lt c j aF).1 af).2 (by
          obtain⟨x,J,nD⟩:=ak
          rw[gQ,if_neg av] at J
          split at J
          · cases J
          · exact⟨x,J,nD⟩) aF an e
   · by_cases e:c=H.n
     · subst e;rw[fl] at aF;cases aF
       have:=(h.lt b i ag).2
       exact⟨by simp,by rw[hs];exact this⟩
     · rw[gh _ _ e] at aF
       have:=h.lt c j aF
       exact⟨by simp;omega,by rw[hs];exact this.2⟩
   · simp at af
     rw[gQ,if_neg (by omega),if_neg (by omega)];exact h.bound c (by omega)
 · refine⟨hle,by omega,by simp,λc af aH=>(ov c af aH).2,λc af hm=>(by rw[gQ,if_neg (by omega),if_neg];intro e;subst e;rw[ag] at hm;cases hm),λr _ aH=>aQ r λe=>aH b i sY ag e.symm,λc j aa ad=>?_,λc iQ j af pD aF=>?_,u_,AX,AY,hdr⟩
   · by_cases e:c=H.n
     · subst e;rw[fl] at ad;cases ad
       exact⟨Nat.le_refl _,.inr ⟨b,o,i,ae,fk,ag,rfl⟩⟩
     · rw[gh _ _ e,aa] at ad;cases ad
   · have cF:c≠b:=by intro e;subst e;rw[ae] at af;cases af;rw[fk] at pD;cases pD
     have pL:=(h.lt c j aF).1
     refine⟨by rw[gQ,if_neg (by omega),if_neg cF];exact af,aQ _ λe=>cF (h.inj c b j i (by rw[af];simp) ⟨o,ae,fk⟩ aF ag e)⟩
theorem bc.kill(h:bc μ H w){b:Nat}{o:cX}{i:ee}(ae:H.get b=some o)(fk:o.nB=false)(ag:μ b=some i):
  bc μ (H.set b none) w/\bN μ H w μ (H.set b none) w:=by
 have ov:∀c,(H.set b none).get c≠none->H.get c≠none:=λc aH=>by
  rw[ab.cD] at aH
  by_cases e:c=b
  · rw[if_pos e] at aH;exact absurd rfl aH
  · rw[if_neg e] at aH;exact aH
 constructor
 · refine⟨λc iQ j af aF=>?_,λc d j k af ak=>h.inj c d j k (ov c af) (by
     obtain⟨x,J,nD⟩:=ak
     rw[ab.cD] at J
     split at J
     · cases J
     · exact⟨x,J,nD⟩),h.lt,λc af=>?_⟩
   · rw[ab.cD] at af
     by_cases e:c=b
     · rw[if_pos e] at af;cases af
     · rw[if_neg e] at af;exact h.rel c iQ j af aF
   · rw[ab.cD]
     split
     · rfl
     · exact h.bound c af
 · refine⟨ej.refl μ,Nat.le_refl _,Nat.le_refl _,λc _ af=>ov c af,λc _ hm=>(by rw[ab.cD,if_neg];intro e;subst e;rw[ag] at hm;cases hm),λ_ _ _=>rfl,λc j aa ad=>(by rw[aa] at ad;cases ad),λc iQ j af pD aF=>⟨?_,rfl⟩,rfl,rfl,rfl,Nat.le_refl _⟩
   have cF:c≠b:=by intro e;subst e;rw[ae] at af;cases af;rw[fk] at pD;cases pD
   rw[ab.cD,if_neg cF];exact af
theorem bc.drew(h:bc μ H w):bc μ H w.drew:=h.of_heap rfl
theorem bN.drew:bN μ H w μ H w.drew:=bN.of_heap rfl rfl rfl rfl
theorem MN{need bytes:Nat}(h:jA need bytes=true):(4*need+2048)*bytes<=281474976710656/\need<=281474976710656:=by
 simp only[jA,Nat.ble_eq] at h
 have aa:(4*need+2048)*bytes<=(4*need+2048)*(bytes+1):=Nat.mul_le_mul_left _ (by omega)
 have ad:(4*need+2048)*1<=(4*need+2048)*(bytes+1):=Nat.mul_le_mul_left _ (by omega)
 refine⟨Nat.le_trans aa h,?_⟩
 have aq:=Nat.le_trans ad h
 rw[Nat.mul_one] at aq
 generalize 281474976710656=q at aq⊢
 omega
theorem MO{sT e:TypeId}{xT:Option TypeId}{i:TypeInfo}{z:Value}{argTypes:Array TypeId}{ty:TypeId}(h0:argTypes[0]? =some sT)(aa:argTypes[1]? =xT)(hu:P.underlying sT=some (.slice e))(J:ni P xT=true)(ag:P.info? e=some i)
  (aP:∀w:World,(zeroValue e).run P w=.ok z w){base:Option Addr}{sLen sCap n:Nat}{bj:Value}(ar:(Builtin.lenOf bj).run P w=.ok n w){us old:List Value}(hold:(Builtin.firstCells i.size sLen (.slice base sLen sCap)).run P w.drew=.ok ⟨old⟩ w.drew)
  (pM:(Builtin.firstCells i.size n bj).run P w.drew=.ok ⟨us⟩ w.drew)(bX:sCap<sLen+n)(nH:jA (sLen+n) i.bytes=true):
  ∃kE,sLen+n<=kE/\(Builtin.append_ argTypes ty #[.slice base sLen sCap,bj]).run P w=
   .ok (.slice (some ⟨w.heap.size,0,none⟩) (sLen+n) kE) (w.drew.alloc (.cells (⟨old⟩++⟨us⟩++Builtin.zeroCells z.cells (kE-(sLen+n))) e)):=by
 obtain⟨aR,bD⟩:=MN nH
 have MP:=ML (sLen+n) sCap bX
 have s0:¬(Builtin.nextslicecap (sLen+n) sCap*i.bytes>2^48):=by
  have aa:Builtin.nextslicecap (sLen+n) sCap*i.bytes<=(4*(sLen+n)+2048)*i.bytes:=Nat.mul_le_mul_right _ MP
  have ad:(2:Nat)^48=281474976710656:=by rfl
  rw[ad]
  exact Nat.not_lt.2 (Nat.le_trans aa aR)
 have MQ:IntKind.max .i64=9223372036854775807:=rfl
 have jl:¬(((sLen+n:Nat):Int)>IntKind.i64.max):=by rw[MQ];omega
 have Fp:¬(sLen+n<=sCap):=by omega
 have bh:∀w:World,(_root_.Go.sizeOf e).run P w=.ok i.size w:=λw=>by simp[_root_.Go.sizeOf,run_typeInfo ag]
 have xZ:(Question.appendCap (sLen+n) sCap e).forced=false:=rfl
 have x0:∀w:World,(typeInfo e).run P w=.ok i w:=λw=>run_typeInfo ag
 have x1:∀(c:Nat) (cs:Array Value),(_root_.Go.newRow e cs).run P w.drew=.ok ⟨w.heap.size,0,none⟩ (w.drew.alloc (.cells cs e)):=λc cs=>rfl
 refine⟨(Question.appendCap (sLen+n) sCap e).cut (w.tape w.drawn (Question.appendCap (sLen+n) sCap e)),by simp[Question.cut],?_⟩
 cases xT with
 |none=>
  simp only[Builtin.append_,h0,aa,List.getElem?_toArray,List.getElem?_cons_zero,List.getElem?_cons_succ,Sem.run_bind,bE hu,Result.andThen_ok,bh,Sem.run_pure,ar,Bool.false_eq_true,if_false,if_neg Fp,x0,jl,false_and,if_neg s0,
   run_choose,xZ,run_askRoom,World.drew_eq,hold,pM,Bool.not_false,if_true,aP,x1 0]
 |some A7=>
  simp only[ni] at J
  cases ak:P.underlying A7 with
  |none=>rw[ak] at J;cases J
  |some d=>
   rw[ak] at J
   cases d<;>first
   |(cases J;done)
   |simp only[Builtin.append_,h0,aa,List.getElem?_toArray,List.getElem?_cons_zero,List.getElem?_cons_succ,Sem.run_bind,bE hu,bE ak,Result.andThen_ok,bh,Sem.run_pure,ar,Bool.false_eq_true,if_false,if_neg Fp,x0,jl,false_and,if_neg s0,
    run_choose,xZ,run_askRoom,World.drew_eq,hold,pM,Bool.not_false,if_true,aP,x1 0]
theorem vl{sT e:TypeId}{xT:Option TypeId}{i:TypeInfo}{argTypes:Array TypeId}{ty:TypeId}(h0:argTypes[0]? =some sT)(aa:argTypes[1]? =xT)(hu:P.underlying sT=some (.slice e))(J:ni P xT=true)(ag:P.info? e=some i)
  {base:Option Addr}{sLen sCap n:Nat}{bj:Value}(ar:(Builtin.lenOf bj).run P w=.ok n w){us:List Value}
  (pM:(Builtin.firstCells i.size n bj).run P w=.ok ⟨us⟩ w)(hle:sLen+n<=sCap):
  (Builtin.append_ argTypes ty #[.slice base sLen sCap,bj]).run P w=match base with
   |some a=>((_root_.Go.storeCells (a.add (sLen*i.size)) us).run P w).andThen λ_ w'=>.ok (.slice base (sLen+n) sCap) w'
   |none=>.ok (.slice base (sLen+n) sCap) w:=by
 have bh:∀w:World,(_root_.Go.sizeOf e).run P w=.ok i.size w:=λw=>by simp[_root_.Go.sizeOf,run_typeInfo ag]
 cases xT with
 |none=>
  cases base<;>simp only[Builtin.append_,h0,aa,List.getElem?_toArray,List.getElem?_cons_zero,List.getElem?_cons_succ,Sem.run_bind,bE hu,Result.andThen_ok,bh,Sem.run_pure,ar,Bool.false_eq_true,if_false,if_pos hle,Bool.not_false,if_true,pM]
 |some A7=>
  simp only[ni] at J
  cases ak:P.underlying A7 with
  |none=>rw[ak] at J;cases J
  |some d=>
   rw[ak] at J
   cases d<;>first
   |(cases J;done)
   |cases base<;>simp only[Builtin.append_,h0,aa,List.getElem?_toArray,List.getElem?_cons_zero,List.getElem?_cons_succ,Sem.run_bind,bE hu,bE ak,Result.andThen_ok,bh,Sem.run_pure,ar,Bool.false_eq_true,if_false,if_pos hle,Bool.not_false,if_true,pM]
theorem MR{l:List I}(h:l.all I.cw=true):∀a∈l,a.cw=true:=λa aw=>List.all_eq_true.1 h a aw
theorem A8(ah:bc μ H w){sT e:TypeId}{xT:Option TypeId}{i:TypeInfo}{z:I}{argTypes:Array TypeId}{ty:TypeId}(h0:argTypes[0]? =some sT)(aa:argTypes[1]? =xT)(hu:P.underlying sT=some (.slice e))(J:ni P xT=true)
  (ag:P.info? e=some i)(aP:dt P e=some z){base:Option Addr}{sLen sCap n:Nat}{x:I}{bj:Value}(x2:a2 μ x bj){cs:List I}(fb:fF H i.size x=some (n,cs)){old:List I}
  (hold:∃us:List Value,(Builtin.firstCells i.size sLen (.slice base sLen sCap)).run P w.drew=.ok ⟨us⟩ w.drew/\bP μ old us)(q5:old.length=sLen*i.size)(gR:cs.length=n*i.size)(bX:sCap<sLen+n){v:I}{H1 aI:ab}(hR:bc μ H1 w)(MS:bN μ H w μ H1 w)
  {fz:Nat}(aj:ji H1 e i.bytes i.size (sLen+n) z (old++cs) fz=some (v,aI)):dV P μ H w (Builtin.append_ argTypes ty #[.slice base sLen sCap,bj]) v aI:=by
 obtain⟨eJ,Fq,rfl,ae⟩:=kC (P:=P) (w:=w) aP
 have MT:∀w:World,(zeroValue e).run P w=.ok eJ w:=λw=>by
  unfold dt at aP
  simp only[ag] at aP
  cases Fs:i.zero with
  |none=>rw[Fs] at aP;cases aP
  |some A9=>
   have aV:∀w:World,(zeroValue e).run P w=.ok A9 w:=λw=>by simp[zeroValue,run_typeInfo ag,Fs]
   rw[aV] at Fq
   cases Fq
   exact aV w
 obtain⟨ar,us,iV,gz⟩:=xY (P:=P) ah x2 fb
 obtain⟨_,pN,MU,Ft⟩:=xY (P:=P) ah.drew x2 fb
 obtain⟨os,u_,Fu⟩:=hold
 unfold ji at aj
 split at aj
 · rename_i af
   simp only[Bool.and_eq_true] at af
   obtain⟨⟨nH,lW⟩,dx⟩:=af
   cases aj
   obtain⟨kE,A_,MV⟩:=MO (P:=P) (w:=w) (ty:=ty) h0 aa hu J ag MT ar u_ MU bX nH
   have hi:=(iP μ eJ).cells ae
   have MW:=Nat.eq_of_beq_eq_true lW
   have MX:eJ.cells.size=i.size:=by have:=hi.length;rw[MW] at this;simpa using this.symm
   have MY:bP μ (old++cs) (os++pN):=Fu.append Ft
   have MZ:os.length=sLen*i.size:=by rw[<-Fu.length,q5]
   have M0:pN.length=n*i.size:=by rw[<-Ft.length,gR]
   have hmul:(sLen+n)*i.size=sLen*i.size+n*i.size:=Nat.add_mul _ _ _
   have Fv:kE*i.size=(sLen+n)*i.size+(kE-(sLen+n))*i.size:=by rw[<-Nat.add_mul,Nat.add_sub_of_le A_]
   have M1:0+kE*i.size=((⟨os⟩:Array Value)++⟨pN⟩++Builtin.zeroCells eJ.cells (kE-(sLen+n))).size:=by
    have aV:(⟨os⟩:Array Value).size=sLen*i.size:=MZ
    have ba:(⟨pN⟩:Array Value).size=n*i.size:=M0
    have b1:(Builtin.zeroCells eJ.cells (kE-(sLen+n))).size=(kE-(sLen+n))*i.size:=by
     unfold Builtin.zeroCells;rw[Array.size_map,Array.size_range,MX]
    rw[Array.size_append,Array.size_append,aV,ba,b1,Fv,hmul]
    omega
   have hle:=hR.drew.mB ⟨w.heap.size,0,kE*i.size⟩
   obtain⟨r1,r2⟩:=hR.drew.alloc (.cells (old++cs) e .aS 0 fz) (.cells (⟨os⟩++⟨pN⟩++Builtin.zeroCells eJ.cells (kE-(sLen+n))) e) (kE*i.size)
    ⟨_,0,0,World.heap_alloc_new _ _,λj a aF=>by
      obtain⟨u,mC,ai⟩:=MY.get aF
      refine⟨u,?_,ai.mono hle⟩
      have s6:j<(os++pN).length:=by
       rcases Nat.lt_or_ge j (os++pN).length with h|h
       · exact h
       · rw[List.getElem?_eq_none h] at mC;cases mC
      rw[Nat.zero_add,Array.getElem?_append_left (by simpa using s6)]
      simpa using mC,M1,by
      refine⟨?_,λj _ _ h=>by omega⟩
      simp[q5,gR];omega⟩
   refine⟨_,_,_,MV,⟨_,fl _ _ _,kE,rfl,A_,by simp⟩,r1,?_⟩
   exact MS.trans ah hR (bN.drew.trans hR hR.drew r2)
 · cases aj
end
end a8
