/-
  THE ABSTRACT EVALUATOR (the evaluator's definitions; values and memory): a deterministic semantics of loaded code, and the proof that its runs are runs of the program in the model, whatever the tape draws. No condition.
-/
import GoSem.Step
import Derived.Calls
import Derived.Laws.Sem
import Derived.Laws.World
set_option linter.unusedVariables false
set_option linter.unusedSimpArgs false
namespace aJ
open Go
inductive dn where
 |exact(n:Nat)
 |aX (h3:Nat)
 |dead
inductive aa where
 |bad
 |bool (b:Bool)
 |int (k:IntKind) (n:Int)
 |str (s:List UInt8)
 |au
 |ptr (b off:Nat)
 |ao
 |slice (b off len:Nat) (cap:dn)
 |jA
 |map (r:Nat)
 |lg
 |fn (f:Nat) (first mT:List aa)
 |gJ (l:Nat)
 |c3
 |iface (t:Nat) (v:aa)
 |agg (cs:List aa)
 |aF (vs:List aa)
 deriving Inhabited
def aa.dJ:aa->Bool
 |.bad|.agg _|.aF _=>false
 |_=>true
def aa.cells:aa->List aa
 |.agg cs=>cs
 |v=>[v]
inductive kf where
 |here|l (p:kf)|r (p:kf)
inductive bf where
 |leaf
 |node (l:bf) (v:aa) (r:bf)
def BG:Nat->Nat->kf
 |0,_=>.here
 |f+1,n=>match n with
  |0=>.here
  |m+1=>match Nat.mod m 2 with
   |0=>.l (BG f (Nat.div m 2))
   |_=>.r (BG f (Nat.div m 2))
def jB(n:Nat):kf:=BG n n
def bf.get:kf->bf->aa
 |.here,.node _ v _=>v
 |.l p,.node l _ _=>get p l
 |.r p,.node _ _ r=>get p r
 |_,.leaf=>.bad
def bf.It(l:bf)(v:aa)(r:bf):bf:=match l with
 |.leaf=>.node .leaf v r
 |.node a b c=>.node (.node a b c) v r
def bf.Iu(l:bf)(v:aa)(r:bf):bf:=match r with
 |.leaf=>.node l v .leaf
 |.node a b c=>.node l v (.node a b c)
def bf.set:kf->aa->bf->bf
 |.here,x,.node l _ r=>.node l x r
 |.here,x,.leaf=>.node .leaf x .leaf
 |.l p,x,.node l v r=>bf.It (set p x l) v r
 |.l p,x,.leaf=>bf.It (set p x .leaf) .bad .leaf
 |.r p,x,.node l v r=>bf.Iu l v (set p x r)
 |.r p,x,.leaf=>bf.Iu .leaf .bad (set p x .leaf)
inductive ff where
 |own|aX|ro|fz
 deriving DecidableEq
structure ga where
 key:aa
 val:aa
 born:Nat
inductive cc where
 |call (f:Nat) (args:List aa)
 |collected (r:Nat)
inductive b5 where
 |cells (cs:List aa) (el:Nat) (k:ff) (lo hi:Nat)
 |map (es:List ga) (clock:Nat)
 |fp (s:List UInt8) (pos:Nat)
 |mapIter (m:Option Nat) (since:Nat) (seen:List Nat) (last:Nat)
 |loop (st:LoopState) (hr:Option Code) (fn:Nat) (pR:bf) (params:List Nat) (assign body:Code) (defers:Nat)
 |defrd (calls:Option (List cc))
 |raw (o:Obj)
inductive fh where
 |leaf
 |node (l:fh) (v:Option b5) (r:fh)
def fh.get:fh->Nat->Option b5
 |.leaf,_=>none
 |.node l v r,n=>match n with
  |0=>v
  |m+1=>match Nat.mod m 2 with
   |0=>get l (Nat.div m 2)
   |_=>get r (Nat.div m 2)
def fh.kB:Nat->fh->Nat->Option b5->fh
 |0,t,_,_=>t
 |f+1,.leaf,n,x=>match n with
  |0=>.node .leaf x .leaf
  |m+1=>match Nat.mod m 2 with
   |0=>.node (kB f .leaf (Nat.div m 2) x) none .leaf
   |_=>.node .leaf none (kB f .leaf (Nat.div m 2) x)
 |f+1,.node l v r,n,x=>match n with
  |0=>.node l x r
  |m+1=>match Nat.mod m 2 with
   |0=>.node (kB f l (Nat.div m 2) x) v r
   |_=>.node l v (kB f r (Nat.div m 2) x)
structure I where
 t:fh
 n:Nat
def I.get(h:I)(b:Nat):Option b5:=h.t.get b
def I.set(h:I)(b:Nat)(o:Option b5):I:=⟨fh.kB (b+1) h.t b o,h.n⟩
def I.push(h:I)(o:b5):I:=⟨fh.kB (h.n+1) h.t h.n (some o),h.n+1⟩
inductive dW where
 |val (v:aa) (h:I)
 |aK (v:aa) (h:I)
 |call (f:Nat) (args:List aa) (h:I)
 |gJ (l:Nat) (args:List aa) (h:I)
 |vF (d:cc)
 |xA
 |fail (lh:String)
inductive a8 where
 |ret (v:aa) (h:I)
 |aK (v:aa) (h:I)
 |fail (lh:String)
mutual
def r0:Value->aa
 |.bool b=>.bool b
 |.int k n=>.int k n
 |.string s=>.str s.data.toList
 |.pointer none=>.au
 |.slice none 0 0=>.ao
 |.map none=>.jA
 |.nilFunc=>.lg
 |.nilIface=>.c3
 |.agg ⟨cs⟩=>.agg (ET cs)
 |.tuple ⟨vs⟩=>.aF (ET vs)
 |_=>.bad
def ET:List Value->List aa
 |[]=>[]
 |v::vs=>r0 v::ET vs
end
def nth{α:Type}:Nat->List α->Option α
 |_,[]=>none
 |0,a::_=>some a
 |n+1,_::l=>nth n l
def takeN:Nat->List aa->Option (List aa)
 |0,_=>some []
 |_+1,[]=>none
 |n+1,a::l=>match takeN n l with
  |some r=>some (a::r)
  |none=>none
def lC{α:Type}:Nat->List α->List α
 |0,l=>l
 |_+1,[]=>[]
 |n+1,_::l=>lC n l
def gb:List UInt8->List UInt8->Bool
 |[],[]=>true
 |a::x,b::y=>match Nat.beq a.toNat b.toNat with
  |true=>gb x y
  |false=>false
 |_,_=>false
def xB:List UInt8->List UInt8->Bool
 |_,[]=>false
 |[],_::_=>true
 |a::x,b::y=>match Nat.beq a.toNat b.toNat with
  |true=>xB x y
  |false=>Nat.blt a.toNat b.toNat
def jZ(x y:Int):Bool:=decide (x<y)
def mo(x y:Int):Bool:=decide (x<=y)
def jM(x y:Int):Bool:=x==y
def loadCells(h:I)(b off n:Nat):Option (List aa):=
 match h.get b with
 |some (.cells cs _ _ _ _)=>takeN n (lC off cs)
 |_=>none
def aC(h:I)(b off:Nat):Option aa:=
 match h.get b with
 |some (.cells cs _ _ _ _)=>nth off cs
 |_=>none
def og(k:ff)(lo hi off n:Nat):Bool:=
 match k with
 |.ro|.fz=>false
 |_=>Nat.ble hi lo||Nat.ble (off+n) lo||Nat.ble hi off
def gK:Nat->List aa->List aa->Option (List aa)
 |0,[],cs=>some cs
 |0,_::_,[]=>none
 |0,v::vs,_::cs=>match v.dJ with
  |true=>match gK 0 vs cs with
   |some r=>some (v::r)
   |none=>none
  |false=>none
 |_+1,[],cs=>some cs
 |_+1,_::_,[]=>none
 |n+1,vs,c::cs=>match gK n vs cs with
  |some r=>some (c::r)
  |none=>none
def storeCells(h:I)(b off:Nat)(vs:List aa):Option I:=
 match h.get b with
 |some (.cells cs el k lo hi)=>
  match og k lo hi off vs.length with
  |true=>match gK off vs cs with
   |some cq=>some (h.set b (some (.cells cq el k lo hi)))
   |none=>none
  |false=>none
 |_=>none
def newRow(h:I)(el:Nat)(cs:List aa):Option (Nat×I):=
 match cs.all aa.dJ with
 |true=>some (h.n,h.push (.cells cs el .own 0 0))
 |false=>none
def oh(P:Program)(t:TypeId):Option Bool:=
 match P.underlying t with
 |some (.struct _)=>some true
 |some (.array _ _)=>some true
 |some _=>some false
 |none=>none
def eg(P:Program)(t:TypeId):Option Nat:=match P.info? t with
 |some i=>some i.size
 |none=>none
def gu(P:Program)(t:TypeId):Option aa:=match P.info? t with
 |some i=>match i.zero with
  |some z=>match r0 z with
   |.bad=>none
   |a=>some a
  |none=>none
 |none=>none
def pS(P:Program)(t:TypeId)(cs:List aa)(off:Nat):Option aa:=
 match oh P t,eg P t with
 |some true,some n=>match takeN n (lC off cs) with
  |some r=>some (.agg r)
  |none=>none
 |some false,_=>nth off cs
 |_,_=>none
def lZ(place:Nat->Option (Nat×Nat))(cells:List aa):List (Nat×aa)->Option (List aa)
 |[]=>some cells
 |(i,v)::rest=>
  match v with
  |.bad=>none
  |v=>match place i with
   |none=>none
   |some (off,size)=>
    match Nat.beq v.cells.length size&&Nat.ble (off+size) cells.length with
    |true=>match gK off v.cells cells with
     |some V9=>lZ place V9 rest
     |none=>none
    |false=>none
def iW{α:Type}:Nat->List α->List α
 |0,_=>[]
 |n+1,l=>l++iW n l
def eqFields(P:Program)(E:TypeId->aa->aa->Option Bool)(xs fQ:List aa):List Field->Option Bool
 |[]=>some true
 |f::dh=>match decide (f.name= "_") with
  |true=>eqFields P E xs fQ dh
  |false=>match pS P f.type xs f.offset,pS P f.type fQ f.offset with
   |some a,some b=>match E f.type a b with
    |some true=>eqFields P E xs fQ dh
    |r=>r
   |_,_=>none
def BH(P:Program)(E:TypeId->aa->aa->Option Bool)(e:TypeId)(sz:Nat)(xs fQ:List aa):Nat->Nat->Option Bool
 |0,_=>some true
 |n+1,i=>match pS P e xs (i*sz),pS P e fQ (i*sz) with
  |some a,some b=>match E e a b with
   |some true=>BH P E e sz xs fQ n (i+1)
   |r=>r
  |_,_=>none
def Iv(h:I)(a i b j:Nat):Option Bool:=
 match Nat.beq a b with
 |true=>some (Nat.beq i j)
 |false=>match h.get a,h.get b with
  |some (.cells _ _ .own 0 0),some (.cells _ _ .own 0 0)=>some false
  |_,_=>none
def kg(P:Program)(h:I):Nat->TypeId->aa->aa->Option Bool
 |0,_,_,_=>none
 |d+1,t,x,y=>
  match P.underlying t with
  |none=>none
  |some .bool=>match x,y with
   |.bool a,.bool b=>some (a==b)
   |_,_=>none
  |some (.int _)=>match x,y with
   |.int j a,.int k b=>if j=k then some (jM a b) else none
   |_,_=>none
  |some .string=>match x,y with
   |.str a,.str b=>some (gb a b)
   |_,_=>none
  |some (.pointer e)=>match x,y with
   |.au,.au=>some true
   |.au,.ptr _ _=>some false
   |.ptr _ _,.au=>some false
   |.ptr a i,.ptr b j=>match eg P e with
    |some (_+1)=>Iv h a i b j
    |_=>none
   |_,_=>none
  |some (.slice _)=>match x,y with
   |.ao,.ao=>some true
   |.ao,.slice _ _ _ _=>some false
   |.slice _ _ _ _,.ao=>some false
   |_,_=>none
  |some (.map _ _)=>match x,y with
   |.jA,.jA=>some true
   |.jA,.map _=>some false
   |.map _,.jA=>some false
   |_,_=>none
  |some (.func _ _ _)=>match x,y with
   |.lg,.lg=>some true
   |.lg,.fn _ _ _=>some false
   |.fn _ _ _,.lg=>some false
   |_,_=>none
  |some (.interface _)=>match x,y with
   |.c3,.c3=>some true
   |.c3,.iface _ _=>some false
   |.iface _ _,.c3=>some false
   |.iface a v,.iface b w=>match Nat.beq a b with
    |false=>some false
    |true=>match P.info? a with
     |some i=>match i.comparable with
      |true=>kg P h d a v w
      |false=>none
     |none=>none
   |_,_=>none
  |some (.struct dh)=>match x,y with
   |.agg xs,.agg fQ=>match P.stoodInHeld t with
    |true=>none
    |false=>eqFields P (kg P h d) xs fQ dh.toList
   |_,_=>none
  |some (.array n e)=>match x,y with
   |.agg xs,.agg fQ=>match eg P e with
    |some sz=>BH P (kg P h d) e sz xs fQ n 0
    |none=>none
   |_,_=>none
  |some _=>none
def vG(P:Program)(t:TypeId)(x y:Operand)(a b:aa):Bool:=
 match a,b with
 |.c3,.c3=>(x matches .const _)||(y matches .const _)
 |.agg _,.agg _=>!P.eqGuardType P.depth t
 |_,_=>true
def arith(op:BinOp)(k:IntKind)(x y:Int):Option aa:=
 match op with
 |.add=>some (.int k (k.wrap (x+y)))
 |.sub=>some (.int k (k.wrap (x-y)))
 |.mul=>some (.int k (k.wrap (x*y)))
 |.quo=>if y=0 then none else some (.int k (k.wrap (x.tdiv y)))
 |.rem=>if y=0 then none else some (.int k (x.tmod y))
 |.and=>some (.int k (k.wrap (BitVec.ofInt k.bits x&&&BitVec.ofInt k.bits y).toNat))
 |.or=>some (.int k (k.wrap (BitVec.ofInt k.bits x|||BitVec.ofInt k.bits y).toNat))
 |.xor=>some (.int k (k.wrap (BitVec.ofInt k.bits x^^^BitVec.ofInt k.bits y).toNat))
 |.andNot=>some (.int k (k.wrap (BitVec.ofInt k.bits x&&& ~~~BitVec.ofInt k.bits y).toNat))
 |.eql=>some (.bool (jM x y))
 |.neq=>some (.bool (!jM x y))
 |.lss=>some (.bool (jZ x y))
 |.leq=>some (.bool (mo x y))
 |.gtr=>some (.bool (jZ y x))
 |.geq=>some (.bool (mo y x))
 |_=>none
def gv(op:BinOp)(k:IntKind)(x y:Int):Option aa:=
 if y<0 then none else
 match op with
 |.shl=>some (.int k (k.wrap (x*2^(min y.toNat k.bits))))
 |.shr=>some (.int k (x.fdiv (2^(min y.toNat k.bits))))
 |_=>none
def zR(op:BinOp)(x y:List UInt8):Option aa:=
 match op with
 |.add=>if((x.length+y.length:Nat):Int)>IntKind.i64.max then none else some (.str (x++y))
 |.eql=>some (.bool (gb x y))
 |.neq=>some (.bool (!gb x y))
 |.lss=>some (.bool (xB x y))
 |.leq=>some (.bool (!xB y x))
 |.gtr=>some (.bool (xB y x))
 |.geq=>some (.bool (!xB x y))
 |_=>none
def hs(P:Program)(h:I)(op:BinOp)(t:TypeId)(mU mV:Operand)(x y:aa):Option aa:=
 match x,y with
 |.int k a,.int k' b=>
  match op with
  |.shl|.shr=>gv op k a b
  |_=>if k=k' then arith op k a b else none
 |.str a,.str b=>zR op a b
 |x,y=>
  match op with
  |.eql=>if vG P t mU mV x y then(match kg P h 100 t x y with
   |some b=>some (.bool b)
   |none=>none) else none
  |.neq=>if vG P t mU mV x y then(match kg P h 100 t x y with
   |some b=>some (.bool (!b))
   |none=>none) else none
  |_=>none
def hS:aa->Option Nat
 |.int _ (.ofNat n)=>some n
 |_=>none
def mW(d:Nat):Option aa->Option Nat
 |none=>some d
 |some v=>hS v
def bounds(len cap:Nat)(lo hi mx:Option aa):Option (Nat×Nat×Nat):=
 match mW cap mx with
 |none=>none
 |some m=>match Nat.ble m cap with
  |false=>none
  |true=>match(match hi,mx with
     |none,none=>some len
     |none,some _=>none
     |some v,_=>hS v) with
   |none=>none
   |some ar=>match Nat.ble ar m with
    |false=>none
    |true=>match mW 0 lo with
     |none=>none
     |some l=>match Nat.ble l ar with
      |false=>none
      |true=>some (l,ar,m)
def kC(P:Program)(h:I)(t:TypeId)(x:aa)(lo hi mx:Option aa):Option aa:=
 match P.underlying t,x with
 |some .string,.str s=>match mx with
  |some _=>none
  |none=>match bounds s.length s.length lo hi none with
   |some (l,ar,_)=>some (.str (List.take (ar-l) (lC l s)))
   |none=>none
 |some (.slice e),.ao=>match eg P e,bounds 0 0 lo hi mx with
  |some _,some _=>some .ao
  |_,_=>none
 |some (.slice e),.slice b off len (.exact cap)=>match eg P e,bounds len cap lo hi mx with
  |some sz,some (l,ar,m)=>some (.slice b (if m=l then off else off+l*sz) (ar-l) (.exact (m-l)))
  |_,_=>none
 |some (.slice e),.slice b off len (.aX h3)=>match eg P e with
  |some sz=>if sz=h3 then(match mx with
   |none=>match bounds len len lo hi none with
    |some (l,ar,_)=>if l=0 then some (.slice b off ar (.aX h3)) else if Nat.blt l len then some (.slice b (off+l*sz) (ar-l) (.aX h3)) else some (.slice b off 0 .dead)
    |none=>none
   |some _=>match bounds len len lo hi mx with
    |some (l,ar,m)=>some (.slice b (if m=l then off else off+l*sz) (ar-l) (.exact (m-l)))
    |none=>none) else none
  |none=>none
 |some (.slice e),.slice b off len .dead=>match eg P e,bounds 0 0 lo hi mx with
  |some _,some _=>some (.slice b off 0 .dead)
  |_,_=>none
 |some (.array n e),.ptr b off=>match eg P e,bounds n n lo hi mx with
  |some sz,some (l,ar,m)=>some (.slice b (if m=l then off else off+l*sz) (ar-l) (.exact (m-l)))
  |_,_=>none
 |some (.pointer arr),.ptr b off=>match P.underlying arr with
  |some (.array n e)=>match eg P e,bounds n n lo hi mx with
   |some sz,some (l,ar,m)=>some (.slice b (if m=l then off else off+l*sz) (ar-l) (.exact (m-l)))
   |_,_=>none
  |_=>none
 |_,_=>none
def o2(P:Program)(h:I)(t:TypeId)(x:aa):Option aa:=
 match P.underlying t,x with
 |some .string,.str s=>some (.int .i64 (Int.ofNat s.length))
 |some (.array n _),_=>some (.int .i64 (Int.ofNat n))
 |some (.slice _),.slice _ _ n _=>some (.int .i64 (Int.ofNat n))
 |some (.slice _),.ao=>some (.int .i64 0)
 |some (.map _ _),.jA=>some (.int .i64 0)
 |some (.map _ _),.map r=>match h.get r with
  |some (.map es _)=>some (.int .i64 (Int.ofNat es.length))
  |_=>none
 |some (.pointer a),_=>match P.underlying a with
  |some (.array n _)=>some (.int .i64 (Int.ofNat n))
  |_=>none
 |_,_=>none
def EU(P:Program)(t:TypeId)(x:aa):Option aa:=
 match P.underlying t,x with
 |some (.array n _),_=>some (.int .i64 (Int.ofNat n))
 |some (.slice _),.slice _ _ _ (.exact n)=>some (.int .i64 (Int.ofNat n))
 |some (.slice _),.ao=>some (.int .i64 0)
 |_,_=>none
def cC:List UInt8->List aa
 |[]=>[]
 |b::l=>.int .u8 (Int.ofNat b.toNat)::cC l
def jr(h:I)(size:Nat):aa->Option (Nat×List aa)
 |.ao=>some (0,[])
 |.str s=>match size with
  |1=>some (s.length,cC s)
  |_=>none
 |.slice b off len .dead=>if len=0 then some (0,[]) else none
 |.slice b off len _=>match loadCells h b off (len*size) with
  |some cs=>some (len,cs)
  |none=>none
 |_=>none
def mX(need bytes:Nat):Bool:=Nat.ble ((4*need+2048)*(bytes+1)) 281474976710656
def uk(P:Program):Option TypeId->Bool
 |none=>true
 |some t=>match P.underlying t with
  |some (.int _)=>false
  |some _=>true
  |none=>false
def r1(h:I)(e bytes size need:Nat)(z:aa)(cs:List aa)(fz:Nat):Option (aa×I):=
 match mX need bytes&&Nat.beq z.cells.length size&&cs.all aa.dJ with
 |true=>some (.slice h.n 0 need (.aX size),h.push (.cells cs e .aX 0 fz))
 |false=>none
def fi(P:Program)(h:I)(sT:TypeId)(xT:Option TypeId)(s x:aa):Option (aa×I):=
 match P.underlying sT,uk P xT with
 |some (.slice e),true=>
  match P.info? e,gu P e with
  |some i,some z=>
   match jr h i.size x with
   |none=>none
   |some (n,cs)=>
    match s with
    |.ao=>match n with
     |0=>some (.ao,h)
     |_=>r1 h e i.bytes i.size n z cs 0
    |.slice b off len (.exact cap)=>
     match Nat.ble (len+n) cap with
     |true=>match n with
      |0=>some (.slice b off len (.exact cap),h)
      |_=>match storeCells h b (off+len*i.size) cs with
       |some ay=>some (.slice b off (len+n) (.exact cap),ay)
       |none=>none
     |false=>match loadCells h b off (len*i.size) with
      |some old=>r1 h e i.bytes i.size (len+n) z (old++cs) 0
      |none=>none
    |.slice b off len (.aX h3)=>
     match Nat.beq h3 i.size&&Nat.blt 0 h3 with
     |true=>match n with
      |0=>some (s,h)
      |_=>match h.get b with
       |some (.cells old el .aX lo hi)=>
        match Nat.ble (off+(len+n)*h3) old.length with
        |true=>match storeCells h b (off+len*h3) cs with
         |some ay=>some (.slice b off (len+n) (.aX h3),ay)
         |none=>none
        |false=>match Nat.ble hi (off+len*h3)&&Nat.beq el e,loadCells h b off (len*h3) with
         |true,some o=>r1 (h.set b none) e i.bytes i.size (len+n) z (o++cs) (hi-off)
         |_,_=>none
       |_=>none
     |false=>none
    |_=>none
  |_,_=>none
 |_,_=>none
def EV(P:Program)(h:I)(EW:TypeId)(d s:aa):Option (aa×I):=
 match P.underlying EW with
 |some (.slice e)=>match eg P e with
  |some sz=>match jr h sz s with
   |some (n,cs)=>match d with
    |.ao=>some (.int .i64 0,h)
    |.slice b off len _=>
     let m:=Nat.min n len
     if m=0 then some (.int .i64 0,h) else
     match takeN (m*sz) cs with
     |some cq=>match storeCells h b off cq with
      |some ay=>some (.int .i64 (Int.ofNat m),ay)
      |none=>none
     |none=>none
    |_=>none
   |none=>none
  |none=>none
 |_=>none
def EX(P:Program)(h:I)(t:TypeId)(x:aa):Option (aa×I):=
 match P.underlying t,x with
 |some (.map _ _),.jA=>some (.aF [],h)
 |some (.slice _),.ao=>some (.aF [],h)
 |some (.map _ _),.map r=>match h.get r with
  |some (.map _ c)=>some (.aF [],h.set r (some (.map [] c)))
  |_=>none
 |some (.slice e),.slice b off n _=>if n=0 then some (.aF [],h) else
  match gu P e with
  |some z=>match storeCells h b off (iW n z.cells) with
   |some ay=>some (.aF [],ay)
   |none=>none
  |none=>none
 |_,_=>none
def BI:aa->aa->Option aa
 |.int k x,.int k' y=>if k=k' then some (.int k (if jZ y x then y else x)) else none
 |_,_=>none
def BJ:aa->aa->Option aa
 |.int k x,.int k' y=>if k=k' then some (.int k (if jZ x y then y else x)) else none
 |_,_=>none
def vH(f:aa->aa->Option aa):aa->List aa->Option aa
 |x,[]=>some x
 |x,y::l=>match f x y with
  |some z=>vH f z l
  |none=>none
def pU:List aa->Option (List UInt8)
 |[]=>some []
 |.int .u8 (.ofNat n)::l=>match Nat.blt n 256,pU l with
  |true,some r=>some (UInt8.ofNat n::r)
  |_,_=>none
 |_=>none
def um(P:Program)(h:I)(pT:TypeId)(p n:aa):Option (aa×I):=
 match p,hS n with
 |.au,some 0=>some (.str [],h)
 |.ptr b off,some n=>if n=0 then some (.str [],h) else
  match P.underlying pT,h.get b with
  |some (.pointer u),some (.cells cs el k lo hi)=>
   if P.underlyingId el=P.underlyingId u&&eg P el=some 1&&Nat.ble n 281474976710656&&decide (k≠ .ro) then
    (match takeN n (lC off cs) with
    |some r=>match pU r with
     |some bs=>some (.str bs,h.set b (some (.cells cs el .fz lo hi)))
     |none=>none
    |none=>none) else none
  |_,_=>none
 |_,_=>none
def s6(P:Program)(kt:TypeId)(k:aa):Bool:=
 match P.underlying kt with
 |some (.int _)=>match k with
  |.int _ _=>true
  |_=>false
 |some .string=>match k with
  |.str _=>true
  |_=>false
 |some .bool=>match k with
  |.bool _=>true
  |_=>false
 |_=>false
def EY(P:Program)(cs:List aa):List Field->Bool
 |[]=>true
 |f::dh=>match pS P f.type cs f.offset with
  |some a=>match s6 P f.type a with
   |true=>EY P cs dh
   |false=>false
  |none=>false
def EZ(P:Program)(e:TypeId)(sz:Nat)(cs:List aa):Nat->Nat->Bool
 |0,_=>true
 |n+1,i=>match pS P e cs (i*sz) with
  |some a=>match s6 P e a with
   |true=>EZ P e sz cs n (i+1)
   |false=>false
  |none=>false
def nC(P:Program)(kt:TypeId)(k:aa):Bool:=
 match k with
 |.agg cs=>match P.underlying kt with
  |some (.struct dh)=>EY P cs dh.toList
  |some (.array n e)=>match eg P e with
   |some sz=>EZ P e sz cs n 0
   |none=>false
  |_=>false
 |k=>s6 P kt k
def s7:aa->aa->Option Bool
 |.int j a,.int k b=>if j=k then some (jM a b) else none
 |.str a,.str b=>some (gb a b)
 |.bool a,.bool b=>some (a==b)
 |_,_=>none
def BK:List aa->List aa->Bool
 |[],[]=>true
 |a::l,b::m=>match s7 a b with
  |some true=>BK l m
  |_=>false
 |_,_=>false
def vI(k x:aa):Bool:=match k,x with
 |.agg a,.agg b=>BK a b
 |.agg _,_=>false
 |_,_=>true
def xC(P:Program)(h:I)(kt:TypeId)(k x:aa):Option Bool:=match k with
 |.agg cs=>kg P h 8 kt (.agg cs) x
 |k=>s7 k x
def jN(P:Program)(h:I)(kt:TypeId)(k:aa):List ga->Nat->Option (Option (Nat×aa))
 |[],_=>some none
 |e::es,i=>match xC P h kt k e.key with
  |some true=>some (some (i,e.val))
  |some false=>jN P h kt k es (i+1)
  |none=>none
def BL(i:Nat)(es:List ga):aa:=match nth i es with
 |some e=>e.key
 |none=>.bad
def xD(v:aa)(key:aa):Nat->List ga->List ga
 |_,[]=>[]
 |0,e::es=>⟨key,v,e.born⟩::es
 |n+1,e::es=>e::xD v key n es
def xE(P:Program)(iX:TypeId)(ok:Bool):Option (Nat×aa)->Option aa
 |some (_,v)=>some (if ok then .aF [v,.bool true] else v)
 |none=>match gu P iX with
  |some z=>some (if ok then .aF [z,.bool false] else z)
  |none=>none
def mY(P:Program)(h:I)(t:TypeId)(m k:aa)(ok:Bool):Option aa:=
 match P.underlying t with
 |some (.map kt iX)=>match nC P kt k with
  |true=>match m with
   |.jA=>xE P iX ok none
   |.map r=>match h.get r with
    |some (.map es _)=>match jN P h kt k es 0 with
     |some r=>xE P iX ok r
     |none=>none
    |_=>none
   |_=>none
  |false=>none
 |_=>none
def iA(P:Program)(h:I)(t:TypeId)(m k v:aa):Option I:=
 match P.underlying t with
 |some (.map kt _)=>match nC P kt k with
  |true=>match m with
   |.map r=>match h.get r with
    |some (.map es clock)=>match jN P h kt k es 0 with
     |some (some (i,_))=>match vI k (BL i es) with
      |true=>some (h.set r (some (.map (xD v k i es) clock)))
      |false=>none
     |some none=>some (h.set r (some (.map (es++[⟨k,v,clock⟩]) (clock+1))))
     |none=>none
    |_=>none
   |_=>none
  |false=>none
 |_=>none
def E0(P:Program)(h:I)(t:TypeId)(m k:aa):Option (aa×I):=
 match P.underlying t with
 |some (.map kt iX)=>match nC P kt k with
  |true=>match m with
   |.map r=>match h.get r with
    |some (.map es clock)=>match jN P h kt k es 0 with
     |some (some (i,v))=>match nth i es with
      |some e=>match vI k e.key with
       |true=>some (.aF [v,.int .i64 (Int.ofNat e.born)],h.set r (some (.map (xD v k i es) clock)))
       |false=>none
      |none=>none
     |some none=>match gu P iX with
      |some z=>some (.aF [z,.int .i64 (Int.ofNat clock)],h.set r (some (.map (es++[⟨k,z,clock⟩]) (clock+1))))
      |none=>none
     |none=>none
    |_=>none
   |_=>none
  |false=>none
 |_=>none
def BM(born:Int):List ga->Nat->Option (Nat×ga)
 |[],_=>none
 |e::es,i=>match jM (Int.ofNat e.born) born with
  |true=>some (i,e)
  |false=>BM born es (i+1)
def E1(h:I)(m s v:aa):Option I:=
 match m,s with
 |.map r,.int _ born=>match h.get r with
  |some (.map es clock)=>match BM born es 0 with
   |some (i,e)=>some (h.set r (some (.map (xD v e.key i es) clock)))
   |none=>none
  |_=>none
 |_,_=>none
def Iw:Nat->List ga->List ga
 |_,[]=>[]
 |0,_::es=>es
 |n+1,e::es=>e::Iw n es
def E2(P:Program)(h:I)(t:TypeId)(m k:aa):Option (aa×I):=
 match P.underlying t with
 |some (.map kt _)=>match nC P kt k with
  |true=>match m with
   |.jA=>some (.aF [],h)
   |.map r=>match h.get r with
    |some (.map es clock)=>match jN P h kt k es 0 with
     |some (some (i,_))=>some (.aF [],h.set r (some (.map (Iw i es) clock)))
     |some none=>some (.aF [],h.set r (some (.map es clock)))
     |none=>none
    |_=>none
   |_=>none
  |false=>none
 |_=>none
def BN(s:List UInt8):Nat×Nat:=Utf8.decode ⟨s.toArray⟩ 0
def kh(h:I)(it:aa)(isStr:Bool):Option (aa×I):=
 match it with
 |.ptr r 0=>match h.get r,isStr with
  |some (.fp s pos),true=>
   (match s with
   |[]=>some (.aF [.bool false],h)
   |s=>let(c,w):=BN s
    some (.aF [.bool true,.int .i64 (Int.ofNat pos),.int .i32 (Int.ofNat c)],h.set r (some (.fp (lC w s) (pos+w)))))
  |some (.mapIter none _ _ _),false=>some (.aF [.bool false],h)
  |_,_=>none
 |_=>none
def BO(b:Nat):List ga->Option ga
 |[]=>none
 |e::l=>match Nat.beq e.born b with
  |true=>some e
  |false=>BO b l
def E3:List Nat->Option Nat
 |[]=>none
 |[b]=>some b
 |_::b::l=>E3 (b::l)
def E4(h:I)(it:aa):Option aa:=
 match it with
 |.ptr r 0=>match h.get r with
  |some (.mapIter (some m) _ seen last)=>match h.get m,E3 seen with
   |some (.map es clock),some b=>match Nat.beq clock last with
    |true=>match BO b es with
     |some e=>some (.aF [e.key,e.val])
     |none=>none
    |false=>none
   |_,_=>none
  |_=>none
 |_=>none
inductive cm where
 |none|act (v:aa)|done (v:aa)
inductive cl where
 |nrm|exit (id:Nat)|ret|goto (l:Nat)|aK (v:aa)
inductive lD where
 |ok (e:cl) (r:bf) (d:List cc) (q:cm) (h:I)
 |fail (lh:String)
inductive ht where
 |fn (f:Nat)|gJ (l:Nat)
abbrev e0:=ht->List aa->I->a8
inductive Acc where
 |env (j:Nat)|o3 (p:kf)|val (v:aa)
def ed(m:Nat)(env:List aa)(r:bf):Acc->aa
 |.env j=>(nth (m-1-j) env).getD .bad
 |.o3 p=>r.get p
 |.val v=>v
def kD(t:Nat):List (Nat×Acc)->Option Acc
 |[]=>none
 |(u,a)::l=>match Nat.beq t u with
  |true=>some a
  |false=>kD t l
def c7(P:Program)(need:Nat)(loc:List (Nat×Acc)):Operand->Acc
 |.tmp t=>match kD t loc with
  |some a=>a
  |none=>match Nat.testBit need t with
   |true=>.o3 (jB t)
   |false=>.val .bad
 |.const v=>.val (r0 v)
 |.global g=>match Nat.blt g P.globals.size with
  |true=>.val (.ptr g 0)
  |false=>.val .bad
 |.func f=>.val (.fn f [] [])
def zS(f:aa)(args:List aa)(h:I):dW:=
 match f with
 |.fn g first mT=>.call g (first++args++mT) h
 |.gJ l=>.gJ l args h
 |_=>.fail ""
def hv(h:I)(lh:String):Option aa->dW
 |some v=>.val v h
 |none=>.fail lh
def oi(lh:String):Option (aa×I)->dW
 |some (v,h)=>.val v h
 |none=>.fail lh
def uo(lh:String):Option I->dW
 |some h=>.val (.aF []) h
 |none=>.fail lh
def kindName:aa->String
 |.bad=> "bad" |.bool _=> "bool" |.int _ n=> "int" ++toString n|.str s=> "str" ++toString s.length|.au=> "nilP" |.ptr b o=> "ptr" ++toString b++ "+" ++toString o|.ao=> "nilS" |.slice b o n c=> "slice" ++toString b++ "+" ++toString o++ "," ++toString n++(match c with|.exact k=> "x" ++toString k|.aX _=> "o" |.dead=> "d")
 |.jA=> "nilM" |.map _=> "map" |.lg=> "nilF" |.fn f _ _=> "fn" ++toString f|.gJ _=> "yld" |.c3=> "nilI" |.iface t _=> "iface" ++toString t|.agg l=> "agg" ++toString l.length|.aF l=> "tup" ++toString l.length
def E5(P:Program)(t:TypeId)(name:String):Option Nat:=
 match P.info? t with
 |some i=>match i.methods.find? (·.name==name) with
  |some m=>match m.path.isEmpty,m.func,P.underlying t with
   |true,some (f,true),some (.pointer _)=>some f
   |true,some (f,false),some (.pointer _)=>none
   |true,some (f,false),some _=>some f
   |_,_,_=>none
  |none=>none
 |none=>none
def kX(P:Program)(b:Builtin)(ats:Array TypeId)(vs:List aa)(h:I):dW:=
 match b with
 |.recover=>.xA
 |.min=>match vs with
  |x::l=>hv h "" (vH BI x l)
  |[]=>.fail ""
 |.max=>match vs with
  |x::l=>hv h "" (vH BJ x l)
  |[]=>.fail ""
 |b=>match ats[0]?,vs with
  |some t,[x]=>match b with
   |.len=>hv h "" (o2 P h t x)
   |.cap=>hv h "" (EU P t x)
   |.clear=>oi "" (EX P h t x)
   |.unsafeSliceData=>match x with
    |.ao=>.val .au h
    |.slice b off n (.exact c)=>if c=0 then .fail "" else .val (.ptr b off) h
    |.slice b off n (.aX _)=>if n=0 then .fail "" else .val (.ptr b off) h
    |_=>.fail ""
   |_=>.fail ""
  |some t,[x,y]=>match b with
   |.append=>oi "" (fi P h t ats[1]? x y)
   |.copy=>oi "" (EV P h t x y)
   |.delete=>oi "" (E2 P h t x y)
   |.unsafeString=>oi "" (um P h t x y)
   |_=>.fail ""
  |_,_=>.fail ""
def df(P:Program)(src dst:TypeId)(x:aa)(h:I):dW:=
 match P.underlying src,P.underlying dst,x with
 |some (.int _),some (.int k),.int _ n=>.val (.int k (k.wrap n)) h
 |some (.int _),some .string,.int _ n=>.val (.str (Utf8.encode n).data.toList) h
 |some .string,some .string,.str s=>.val (.str s) h
 |some .string,some (.slice e),.str s=>match P.underlying e with
  |some (.int .u8)=>.val (.slice h.n 0 s.length (.aX 1)) (h.push (.cells (cC s) e .aX 0 0))
  |_=>.fail ""
 |some (.slice e),some .string,v=>match P.underlying e,v with
  |some (.int .u8),.ao=>.val (.str []) h
  |some (.int .u8),.slice b off n .dead=>if n=0 then .val (.str []) h else .fail ""
  |some (.int .u8),.slice b off n _=>match loadCells h b off n with
   |some cs=>match pU cs with
    |some bs=>.val (.str bs) h
    |none=>.fail ""
   |none=>.fail ""
  |_,_=>.fail ""
 |some (.pointer u),some .unsafePointer,.ptr b off=>match h.get b,eg P u with
  |some (.cells cs _ _ _ _),some (_+1)=>if Nat.blt off cs.length then .val (.ptr b off) h else .fail ""
  |_,_=>.fail ""
 |some .unsafePointer,some (.pointer u),.ptr b off=>match h.get b,eg P u with
  |some (.cells cs el .own _ _),some (_+1)=>if liesAt P P.depth el (cs.length/P.cellsOf el) off u 1 then .val (.ptr b off) h else .fail ""
  |_,_=>.fail ""
 |_,_,v=>.fail ""
def dg(P:Program)(o:Oper)(g:Operand->aa)(h:I):dW:=
 match o.op with
 |.move x|.assign x=>.val (g x) h
 |.pick c a b=>match g c with
  |.bool true=>.val (g a) h
  |.bool false=>.val (g b) h
  |_=>.fail ""
 |.alloc e=>match gu P e with
  |some z=>match newRow h e z.cells with
   |some (b,ay)=>.val (.ptr b 0) ay
   |none=>.fail ""
  |none=>.fail ""
 |.box e x=>match newRow h e (g x).cells with
  |some (b,ay)=>.val (.ptr b 0) ay
  |none=>.fail ""
 |.build t parts=>match gu P t with
  |some z=>match P.underlying t with
   |some (.struct dh)=>match dh.toList.all (λf=>(eg P f.type).isSome),lZ (λi=>(dh[i]?).map λf=>(f.offset,P.cellsOf f.type)) z.cells (parts.toList.map λp=>(p.1,g p.2)) with
    |true,some cs=>.val (.agg cs) h
    |_,_=>.fail ""
   |some (.array _ e)=>match eg P e with
    |some sz=>match lZ (λi=>some (i*sz,sz)) z.cells (parts.toList.map λp=>(p.1,g p.2)) with
     |some cs=>.val (.agg cs) h
     |none=>.fail ""
    |none=>.fail ""
   |_=>.fail ""
  |none=>.fail ""
 |.buildSlice t len parts=>match P.underlying t with
  |some (.slice e)=>match eg P e,gu P e with
   |some sz,some z=>match Nat.ble (len*sz) 16777216&&Nat.beq z.cells.length sz,lZ (λi=>some (i*sz,sz)) (if len*sz=0 then[] else iW len z.cells) (parts.toList.map λp=>(p.1,g p.2)) with
    |true,some cs=>match newRow h e cs with
     |some (b,ay)=>.val (.slice b 0 len (.exact len)) ay
     |none=>.fail ""
    |_,_=>.fail ""
   |_,_=>.fail ""
  |_=>.fail ""
 |.insert t m k v=>uo "" (iA P h t (g m) (g k) (g v))
 |.load t a=>match g a with
  |.ptr b off=>match oh P t,eg P t with
   |some true,some n=>match loadCells h b off n with
    |some cs=>.val (.agg cs) h
    |none=>.fail ""
   |some false,_=>hv h "" (aC h b off)
   |_,_=>.fail ""
  |v=>.fail ""
 |.store t a v=>match g a with
  |.ptr b off=>match g v,eg P t with
   |.bad,_=>.fail ""
   |v,some n=>match Nat.beq v.cells.length n with
    |true=>uo "" (storeCells h b off v.cells)
    |false=>.fail ""
   |_,none=>.fail ""
  |_=>.fail ""
 |.ready _|.waits _=>.fail ""
 |.nilCheck x=>match g x with
  |.ptr b o=>.val (.ptr b o) h
  |.slice b o n c=>.val (.slice b o n c) h
  |.fn f a b=>.val (.fn f a b) h
  |.iface t v=>.val (.iface t v) h
  |_=>.fail ""
 |.binOp op t x y _=>hv h "" (hs P h op t x y (g x) (g y))
 |.unOp op _ x=>match op,g x with
  |.not,.bool b=>.val (.bool (!b)) h
  |.neg,.int k n=>.val (.int k (k.wrap (0-n))) h
  |.xor,.int k n=>hv h "" (arith .xor k (if k.signed then-1 else k.max) n)
  |_,_=>.fail ""
 |.convert src dst x=>df P src dst (g x) h
 |.sliceToArrayPointer .. =>.fail ""
 |.makeInterface t x=>match P.underlying t with
  |some (.interface _)=>.fail ""
  |some _=>.val (.iface t (g x)) h
  |none=>.fail ""
 |.makeFunc fn first mT=>match fn with
  |.func f=>.val (.fn f (first.toList.map g) (mT.toList.map g)) h
  |_=>.fail ""
 |.makeMap t r=>match r with
  |none=>.val (.map h.n) (h.push (.map [] 0))
  |some x=>match P.underlying t,g x with
   |some (.map _ _),.int _ _=>.val (.map h.n) (h.push (.map [] 0))
   |_,_=>.fail ""
 |.makeChan .. =>.fail ""
 |.makeSlice t l c=>match P.underlying t,hS (g l),hS (g c) with
  |some (.slice e),some l,some c=>match P.info? e,gu P e with
   |some i,some z=>if l<=c&&Nat.ble (c*(i.bytes+1)) 1099511627776&&Nat.beq z.cells.length i.size then(match newRow h e (if c*i.size=0 then[] else iW c z.cells) with
    |some (b,ay)=>.val (.slice b 0 l (.exact c)) ay
    |none=>.fail "") else .fail ""
   |_,_=>.fail ""
  |_,_,_=>.fail ""
 |.slice t x lo hi mx=>hv h "" (kC P h t (g x) (lo.map g) (hi.map g) (mx.map g))
 |.fieldAddr s x f=>match P.underlying s,g x with
  |some (.struct dh),.ptr b off=>match dh[f]? with
   |some fd=>match eg P fd.type with
    |some 0=>.fail ""
    |some _=>.val (.ptr b (off+fd.offset)) h
    |none=>.fail ""
   |none=>.fail ""
  |_,v=>.fail ""
 |.field t x f=>match P.underlying t,g x with
  |some (.struct dh),.agg cs=>match dh[f]? with
   |some fd=>hv h "" (pS P fd.type cs fd.offset)
   |none=>.fail ""
  |_,_=>.fail ""
 |.indexAddr t x i=>match P.underlying t,g x,hS (g i) with
  |some (.array n e),.ptr b off,some i=>match eg P e with
   |some sz=>if i<n then .val (.ptr b (off+i*sz)) h else .fail ""
   |none=>.fail ""
  |some (.slice e),.slice b off n c,some i=>match eg P e with
   |some sz=>if i<n then .val (.ptr b (off+i*sz)) h else .fail ""
   |none=>.fail ""
  |_,v,w=>.fail ""
 |.index t x i=>match P.underlying t,g x,hS (g i) with
  |some (.array n e),.agg cs,some i=>match eg P e with
   |some sz=>if i<n then hv h "" (pS P e cs (i*sz)) else .fail ""
   |none=>.fail ""
  |some .string,.str s,some i=>match nth i s with
   |some b=>.val (.int .u8 (Int.ofNat b.toNat)) h
   |none=>.fail ""
  |_,_,_=>.fail ""
 |.lookup t x i ok=>hv h "" (mY P h t (g x) (g i) ok)
 |.mapUpdate t m k v=>uo "" (iA P h t (g m) (g k) (g v))
 |.mapEntry t m k=>oi "" (E0 P h t (g m) (g k))
 |.entryStore t m s v=>uo "" (E1 h (g m) (g s) (g v))
 |.range t x=>match P.underlying t,g x with
  |some .string,.str s=>.val (.ptr h.n 0) (h.push (.fp s 0))
  |some (.map _ _),.jA=>.val (.ptr h.n 0) (h.push (.mapIter none 0 [] 0))
  |some (.map _ _),.map m=>match h.get m with
   |some (.map _ c)=>.val (.ptr h.n 0) (h.push (.mapIter (some m) c [] c))
   |_=>.fail ""
  |_,_=>.fail ""
 |.next it isStr=>oi "" (kh h (g it) isStr)
 |.entry it=>hv h "" (E4 h (g it))
 |.typeAssert x xT as ok=>match P.underlying as,g x with
  |some (.interface _),_=>.fail ""
  |some _,.c3=>if ok then(match gu P as with|some z=>.val (.aF [z,.bool false]) h|none=>.fail "") else .fail ""
  |some _,.iface t v=>if t=as then .val (if ok then .aF [v,.bool true] else v) h else
   if ok then(match gu P as with|some z=>.val (.aF [z,.bool false]) h|none=>.fail "") else .fail ""
  |_,_=>.fail ""
 |.extract t i=>match g t with
  |.aF vs=>hv h "" (nth i vs)
  |_=>.fail ""
 |.call c=>match c.callee with
  |.value f=>zS (g f) (c.args.toList.map g) h
  |.invoke r name=>match g r with
   |.iface t v=>match E5 P t name with
    |some f=>.call f (v::c.args.toList.map g) h
    |none=>.fail ""
   |_=>.fail ""
  |.builtin b=>kX P b c.argTypes (c.args.toList.map g) h
 |.go _=>.fail ""
 |.defer c=>match c.callee with
  |.value f=>match g f with
   |.fn k first mT=>.vF (.call k (first++c.args.toList.map g++mT))
   |_=>.fail ""
  |_=>.fail ""
 |.panic x=>match g x with
  |.iface t v=>.aK (.iface t v) h
  |_=>.fail ""
 |.send .. |.recv .. |.select .. =>.fail ""
structure Step where
 guard:Option (Acc×Bool)
 o:Oper
 loc:List (Nat×Acc)
 m:Nat
structure NM where
 steps:List Step
 loc:List (Nat×Acc)
def lE(P:Program)(need:Nat)(ops:Array Oper)(loc:List (Nat×Acc))(o:Oper):Option (Acc×Bool):=
 match o.guard with
 |none=>none
 |some (j,b)=>match(ops[j]?).bind (·.dst) with
  |some t=>some (c7 P need loc (.tmp t),b)
  |none=>some (.val .bad,b)
def aliasOf(o:Oper):Option (Nat×Operand):=
 match o.guard,o.dst,o.op with
 |none,some t,.move x=>some (t,x)
 |none,some t,.assign x=>some (t,x)
 |_,_,_=>none
def o4(o:Oper)(m:Nat)(loc:List (Nat×Acc)):List (Nat×Acc):=
 match o.dst with
 |some t=>(t,.env m)::loc
 |none=>loc
def zT(P:Program)(need:Nat)(ops:Array Oper):List Oper->List (Nat×Acc)->List Step->Nat->NM
 |[],loc,st,_=>⟨st.reverse,loc⟩
 |o::rest,loc,st,m=>
  match aliasOf o with
  |some (t,x)=>zT P need ops rest ((t,c7 P need loc x)::loc) st m
  |none=>zT P need ops rest (o4 o m loc) (⟨lE P need ops loc o,o,loc,m⟩::st) (m+1)
def s8(P:Program)(need:Nat)(ops:Array Oper):NM:=zT P need ops ops.toList [] [] 0
inductive pV where
 |ok (env:List aa) (d:List cc) (q:cm) (h:I)
 |aK (v:aa) (d:List cc) (q:cm) (h:I)
 |fail (lh:String)
inductive BP where
 |ok (v:aa) (d:List cc) (q:cm) (h:I)
 |aK (v:aa) (d:List cc) (q:cm) (h:I)
 |fail (lh:String)
def fj:Option (aa×Bool)->Option Bool
 |none=>some true
 |some (.bool c,b)=>some (c==b)
 |some (.aF [],_)=>some false
 |_=>none
def BQ(d:List cc)(q:cm):a8->BP
 |.ret v h=>.ok v d q h
 |.aK v h=>.aK v d q h
 |.fail w=>.fail w
def e4(P:Program)(inR:Bool)(call:ht->List aa->I->a8)(gd:Option (aa×Bool))(o:Oper)(g:Operand->aa)(d:List cc)(q:cm)(h:I):BP:=
 match fj gd with
 |none=>.fail ""
 |some false=>.ok (.aF []) d q h
 |some true=>
  match dg P o g h with
  |.val v ay=>.ok v d q ay
  |.aK v ay=>.aK v d q ay
  |.call f args ay=>BQ d q (call (.fn f) args ay)
  |.gJ l args ay=>BQ d q (call (.gJ l) args ay)
  |.vF x=>if inR then .fail "" else .ok (.aF []) (x::d) q h
  |.xA=>if inR then .fail "" else match q with
   |.none=>.ok .c3 d .none h
   |.done v=>.ok .c3 d (.done v) h
   |.act v=>.ok v d (.done v) h
  |.fail w=>.fail (w++ " at " ++o.pos)
def mq(P:Program)(need:Nat)(inR:Bool)(call:ht->List aa->I->a8)(r:bf):List Step->List aa->List cc->cm->I->pV
 |[],env,d,q,h=>.ok env d q h
 |s::rest,env,d,q,h=>
  match e4 P inR call (match s.guard with|none=>none|some (a,b)=>some (ed s.m env r a,b)) s.o (λx=>ed s.m env r (c7 P need s.loc x)) d q h with
  |.ok v bT bZ ay=>mq P need inR call r rest (v::env) bT bZ ay
  |.aK v bT bZ ay=>.aK v bT bZ ay
  |.fail w=>.fail w
def dn.beq:dn->dn->Bool
 |.exact a,.exact b=>Nat.beq a b
 |.aX a,.aX b=>Nat.beq a b
 |.dead,.dead=>true
 |_,_=>false
mutual
def aa.beq:aa->aa->Bool
 |.bool a,.bool b=>a==b
 |.int j a,.int k b=>decide (j=k)&&jM a b
 |.str a,.str b=>gb a b
 |.au,.au=>true
 |.ptr a i,.ptr b j=>Nat.beq a b&&Nat.beq i j
 |.ao,.ao=>true
 |.slice a i n c,.slice b j m d=>Nat.beq a b&&Nat.beq i j&&Nat.beq n m&&c.beq d
 |.jA,.jA=>true
 |.map a,.map b=>Nat.beq a b
 |.lg,.lg=>true
 |.fn f a b,.fn g c d=>Nat.beq f g&&aa.o5 a c&&aa.o5 b d
 |.gJ a,.gJ b=>Nat.beq a b
 |.c3,.c3=>true
 |.iface t v,.iface u w=>Nat.beq t u&&aa.beq v w
 |.agg a,.agg b=>aa.o5 a b
 |.aF a,.aF b=>aa.o5 a b
 |_,_=>false
def aa.o5:List aa->List aa->Bool
 |[],[]=>true
 |a::as,b::bs=>aa.beq a b&&aa.o5 as bs
 |_,_=>false
end
inductive V_ where
 |pure|alloc|fq
def kindOf(P:Program):Op->V_
 |.move _|.assign _|.pick .. |.build .. |.load .. |.nilCheck _|.binOp .. |.unOp .. |.makeInterface .. |.makeFunc .. |.slice .. |.fieldAddr .. |.field .. |.indexAddr .. |.index .. |.lookup .. |.typeAssert .. |.extract .. =>.pure
 |.convert _ d _=>match P.underlying d with
  |some (.slice _)=>.fq
  |_=>.pure
 |.call c=>match c.callee with
  |.builtin .len|.builtin .cap|.builtin .min|.builtin .max|.builtin .unsafeSliceData=>.pure
  |_=>.fq
 |.alloc _|.box .. |.buildSlice .. |.makeSlice .. =>.alloc
 |.makeMap _ none=>.alloc
 |_=>.fq
def ki(P:Program)(o:Op)(g:Operand->aa)(b:Nat):Option (aa×b5):=
 match o with
 |.alloc e=>match gu P e with
  |some z=>match z.cells.all aa.dJ with
   |true=>some (.ptr b 0,.cells z.cells e .own 0 0)
   |false=>none
  |none=>none
 |.box e x=>match(g x).cells.all aa.dJ with
  |true=>some (.ptr b 0,.cells (g x).cells e .own 0 0)
  |false=>none
 |.buildSlice t len parts=>match P.underlying t with
  |some (.slice e)=>match eg P e,gu P e with
   |some sz,some z=>match Nat.ble (len*sz) 16777216&&Nat.beq z.cells.length sz,lZ (λi=>some (i*sz,sz)) (if len*sz=0 then[] else iW len z.cells) (parts.toList.map λp=>(p.1,g p.2)) with
    |true,some cs=>match cs.all aa.dJ with
     |true=>some (.slice b 0 len (.exact len),.cells cs e .own 0 0)
     |false=>none
    |_,_=>none
   |_,_=>none
  |_=>none
 |.makeSlice t l c=>match P.underlying t,hS (g l),hS (g c) with
  |some (.slice e),some l,some c=>match P.info? e,gu P e with
   |some i,some z=>match decide (l<=c)&&Nat.ble (c*(i.bytes+1)) 1099511627776&&Nat.beq z.cells.length i.size,(if c*i.size=0 then[] else iW c z.cells) with
    |true,cs=>match cs.all aa.dJ with
     |true=>some (.slice b 0 l (.exact c),.cells cs e .own 0 0)
     |false=>none
    |_,_=>none
   |_,_=>none
  |_,_,_=>none
 |.makeMap _ none=>some (.map b,.map [] 0)
 |_=>none
structure DStep where
 i:Nat
 o:Oper
 fL:Nat
 loc:List (Nat×Acc)
def BR(iq:List Nat)(n:Nat)(o:Oper):Nat:=
 o.after.foldl (λs e=>match Region.binds .any e with
  |true=>s|||1<<<e.on|||(nth (n-1-e.on) iq).getD 0
  |false=>s) 0
def fW:List Oper->Nat->List (Nat×Acc)->List Nat->List DStep
 |[],_,_,_=>[]
 |o::l,n,loc,iq=>
  let m:=BR iq n o
  ⟨n,o,m,loc⟩::fW l (n+1) (o4 o n loc) (m::iq)
def kY:List Oper->Nat->List (Nat×Acc)->List (Nat×Acc)
 |[],_,loc=>loc
 |o::l,n,loc=>kY l (n+1) (o4 o n loc)
def gY(P:Program)(need:Nat)(ops:Array Oper)(r:bf)(n:Nat)(env:List aa)(s:DStep):Option (aa×Bool):=
 match lE P need ops s.loc s.o with
 |none=>none
 |some (a,b)=>some (ed n env r a,b)
inductive Ix where
 |ok (env:List aa) (d:List cc) (q:cm) (h:I) (bp:List (Nat×Nat×I))
 |aK (v:aa) (env:List aa) (d:List cc) (q:cm) (h:I) (bp:List (Nat×Nat×I))
 |fail (lh:String)
def h4(P:Program)(need:Nat)(inR:Bool)(call:ht->List aa->I->a8)(ops:Array Oper)(r:bf)(bE:Nat):List DStep->List aa->List cc->cm->I->List (Nat×Nat×I)->Ix
 |[],env,d,q,h,bp=>.ok env d q h bp
 |s::rest,env,d,q,h,bp=>
  let gd:=gY P need ops r s.i env s
  let g:=λx=>ed s.i env r (c7 P need s.loc x)
  match kindOf P s.o.op with
  |.alloc=>match fj gd with
   |none=>.fail ""
   |some false=>h4 P need inR call ops r bE rest (.aF []::env) d q h bp
   |some true=>match ki P s.o.op g (bE+s.i) with
    |some (v,o)=>h4 P need inR call ops r bE rest (v::env) d q (h.set (bE+s.i) (some o)) bp
    |none=>.fail ""
  |.pure=>match e4 P inR call gd s.o g d q h with
   |.ok v _ _ _=>h4 P need inR call ops r bE rest (v::env) d q h bp
   |.aK _ _ _ _=>.fail ""
   |.fail w=>.fail w
  |.fq=>
   match(match bp with|[]=>true|(e,_,_)::_=>Nat.testBit s.fL e) with
   |false=>.fail ""
   |true=>match e4 P inR call gd s.o g d q h with
    |.ok v bT bZ ay=>h4 P need inR call ops r bE rest (v::env) bT bZ ay ((s.i,s.fL,h)::bp)
    |.aK v bT bZ ay=>match rest.all (λbF=>Nat.testBit bF.fL s.i) with
     |true=>.aK v env bT bZ ay ((s.i,s.fL,h)::bp)
     |false=>.fail ""
    |.fail w=>.fail w
def iY(P:Program)(need:Nat)(ops:Array Oper)(r:bf)(n:Nat)(env:List aa)(s:DStep)(v:aa)(h:I):Bool:=
 match fj (gY P need ops r n env s) with
 |none=>false
 |some false=>true
 |some true=>match dg P s.o (λx=>ed n env r (c7 P need s.loc x)) h with
  |.val v' _=>aa.beq v' v
  |_=>false
def pW(P:Program)(need:Nat)(ops:Array Oper)(r:bf)(n:Nat)(env:List aa)(s:DStep)(nx:Option Nat)(h:I):I:=match nx,s.o.op with
 |some e,.convert _ _ x=>match c7 P need s.loc x with
  |.env j=>match Nat.blt e j&&Nat.testBit s.fL j,nth j (fW ops.toList 0 [] []) with
   |true,some bF=>match bF.o.op,ed n env r (.env j),fj (gY P need ops r n env bF) with
    |.makeSlice t l c,.slice b _ _ _,some true=>match ki P (.makeSlice t l c) (λy=>ed n env r (c7 P need bF.loc y)) b with
     |some (_,ob)=>h.set b (some ob)
     |none=>h
    |_,_,_=>h
   |_,_=>h
  |_=>h
 |_,_=>h
def nD(P:Program)(need:Nat)(ops:Array Oper)(r:bf)(n:Nat)(env:List aa)(s:DStep)(v:aa):Option Nat->I->List (Nat×Nat×I)->Bool
 |nx,h,bp=>
  (match(match nx with|none=>false|some e=>Nat.testBit s.fL e)||(match bp with|[]=>false|(_,m,_)::_=>Nat.testBit m s.i) with
   |true=>true
   |false=>iY P need ops r n env s v h||iY P need ops r n env s v (pW P need ops r n env s nx h))&&
  (match bp with
   |[]=>true
   |(e,_,ay)::rest=>nD P need ops r n env s v (some e) ay rest)
def oj(P:Program)(need:Nat)(ops:Array Oper)(r:bf)(n:Nat)(env:List aa)(last:Option Nat)(h:I)(bp:List (Nat×Nat×I)):List DStep->Bool
 |[]=>true
 |s::rest=>(match Nat.blt s.i n,kindOf P s.o.op with
   |true,.pure=>nD P need ops r n env s ((nth (n-1-s.i) env).getD .bad) last h bp
   |_,_=>true)&&oj P need ops r n env last h bp rest
def xF(P:Program)(need:Nat)(inR:Bool)(call:ht->List aa->I->a8)(ops:Array Oper)(r:bf)(d:List cc)(q:cm)(h:I):pV:=
 let steps:=fW ops.toList 0 [] []
 match h4 P need inR call ops r h.n steps [] d q ⟨h.t,h.n+ops.size⟩ [] with
 |.ok env bT bZ ay bp=>match oj P need ops r env.length env none ay bp steps with
  |true=>.ok env bT bZ ay
  |false=>.fail ""
 |.aK v env bT bZ ay bp=>match bp with
  |(e,_,h0)::rest=>match oj P need ops r env.length env (some e) h0 rest steps with
   |true=>.aK v bT bZ ay
   |false=>.fail ""
  |[]=>.fail ""
 |.fail w=>.fail w
def uq(need:Nat)(m:Nat)(env:List aa)(jO:bf):List (Nat×Acc)->bf->bf
 |[],r=>r
 |(t,a)::l,r=>
  let r':=uq need m env jO l r
  match Nat.testBit need t with
  |true=>r'.set (jB t) (ed m env jO a)
  |false=>r'
def zU:List (Nat×Acc)->bf->bf
 |[],r=>r
 |(t,_)::l,r=>(zU l r).set (jB t) .bad
def ur(need:Nat)(r:bf)(loc:List (Nat×Acc)):pV->lD
 |.ok env d q h=>.ok .nrm (uq need env.length env r loc r) d q h
 |.aK v d q h=>.ok (.aK v) (zU loc r) d q h
 |.fail w=>.fail w
def vJ(x:lD)(f:bf->List cc->cm->I->lD):lD:=
 match x with
 |.ok .nrm r d q h=>f r d q h
 |x=>x
def s9(f:bf->List cc->cm->I->lD):Nat->bf->List cc->cm->I->lD
 |0,_,_,_,_=>.fail ""
 |n+1,r,d,q,h=>vJ (f r d q h) (s9 f n)
def s_(rd:Option Nat)(n:Nat):Nat:=match rd with
 |none=>n+1
 |some _=>n
def E6(need:Nat)(rd:Option Nat)(r:bf)(ps:List Nat)(as dG:Code)(d:List cc)(h:I):Option (List cc×I):=
 match rd with
 |none=>some (.collected h.n::d,(h.push (.defrd (some []))).push (.loop .ready none need r ps as dG h.n))
 |some nE=>match h.get nE with
  |some (.loop _ _ _ _ _ _ _ h5)=>some (d,h.push (.loop .ready none need r ps as dG h5))
  |_=>none
def E7(l:Nat)(r:bf)(d:List cc)(q:cm):a8->lD
 |.ret _ h=>match h.get l with
  |some (.loop st hr bL rg ps as dG h5)=>match st with
   |.busy=>.fail ""
   |_=>match hr with
    |none=>.ok .nrm r d q (h.set l (some (.loop .exhausted hr bL rg ps as dG h5)))
    |some .ret=>.ok .ret r d q (h.set l (some (.loop .exhausted hr bL rg ps as dG h5)))
    |some (.exit id)=>.ok (.exit id) r d q (h.set l (some (.loop .exhausted hr bL rg ps as dG h5)))
    |_=>.fail ""
  |_=>.fail ""
 |.aK v h=>.ok (.aK v) r d q h
 |.fail w=>.fail w
def eR(P:Program)(need:Nat)(rd:Option Nat)(call:ht->List aa->I->a8):Code->bf->List cc->cm->I->lD
 |.skip,r,d,q,h=>.ok .nrm r d q h
 |.region id ops draw,r,d,q,h=>
  match draw with
  |false=>
   let pl:=s8 P need ops
   ur need r pl.loc (mq P need rd.isSome call r pl.steps [] d q h)
  |true=>ur need r (kY ops.toList 0 []) (xF P need rd.isSome call ops r d q h)
 |.seq a b,r,d,q,h=>vJ (eR P need rd call a r d q h) (eR P need rd call b)
 |.cond c a b,r,d,q,h=>match ed 0 [] r (c7 P need [] c) with
  |.bool true=>eR P need rd call a r d q h
  |.bool false=>eR P need rd call b r d q h
  |_=>.fail ""
 |.block id b,r,d,q,h=>match eR P need rd call b r d q h with
  |.ok (.exit i) r' bT bZ ay=>if i=id then .ok .nrm r' bT bZ ay else .ok (.exit i) r' bT bZ ay
  |x=>x
 |.loop b,r,d,q,h=>s9 (eR P need rd call b) 100000 r d q h
 |.exit id,r,d,q,h=>.ok (.exit id) r d q h
 |.ret,r,d,q,h=>.ok .ret r d q h
 |.label _,r,d,q,h=>.ok .nrm r d q h
 |.goto l,r,d,q,h=>.fail ""
 |.scope b,r,d,q,h=>eR P need rd call b r d q h
 |.rangeFunc f params assign body,r,d,q,h=>
  match E6 need rd r params.toList assign body d h with
  |none=>.fail ""
  |some (bT,J)=>
   match zS (ed 0 [] r (c7 P need [] f)) [.gJ (s_ rd h.n)] J with
   |.call g args ae=>E7 (s_ rd h.n) r bT q (call (.fn g) args ae)
   |.gJ gw args ae=>E7 (s_ rd h.n) r bT q (call (.gJ gw) args ae)
   |_=>.fail ""
 |.refuse w,_,_,_,_=>.fail ""
def bit(t:Nat):Nat:=1<<<t
def NN:List Oper->Nat->Nat->Nat
 |[],_,acc=>acc
 |o::l,written,acc=>
  let acc:=o.op.operands.foldl (λa x=>match x with
   |.tmp t=>if Nat.testBit written t then a else a|||bit t
   |_=>a) acc
  NN l (match o.dst with|some t=>written|||bit t|none=>written) acc
def NO:Operand->Nat
 |.tmp t=>bit t
 |_=>0
def vK:Code->Nat->Nat
 |.region _ ops _,acc=>NN ops.toList 0 acc
 |.seq a b,acc=>vK b (vK a acc)
 |.cond c a b,acc=>vK b (vK a (acc|||NO c))
 |.block _ b,acc|.loop b,acc|.scope b,acc=>vK b acc
 |.rangeFunc f ps a b,acc=>vK b (vK a (acc|||NO f|||ps.foldl (λa t=>a|||bit t) 0))
 |_,acc=>acc
def e1(fn:Func):Nat:=
 let rs:=fn.results.foldl (λa r=>match r with|.tmp t=>a|||bit t|.cell t _=>a|||bit t) 0
 match fn.body with
 |some c=>vK c rs
 |none=>rs
def vL:Nat->List aa->bf->bf
 |_,[],r=>r
 |i,v::l,r=>vL (i+1) l (r.set (jB i) v)
def vM(P:Program)(need:Nat)(r:bf)(h:I)(x:ResultVar):Option aa:=
 match x with
 |.tmp t=>match Nat.testBit need t with
  |true=>some (r.get (jB t))
  |false=>none
 |.cell t ty=>match Nat.testBit need t with
  |true=>match r.get (jB t),oh P ty,eg P ty with
   |.ptr b off,some true,some n=>(match loadCells h b off n with|some cs=>some (.agg cs)|none=>none)
   |.ptr b off,some false,_=>aC h b off
   |_,_,_=>none
  |false=>none
def o6(f:ResultVar->Option aa):List ResultVar->Option (List aa)
 |[]=>some []
 |x::l=>match f x,o6 f l with
  |some v,some vs=>some (v::vs)
  |_,_=>none
def vN(P:Program)(need:Nat)(fn:Func)(r:bf)(h:I):Option aa:=
 match o6 (vM P need r h) fn.results.toList with
 |some [v]=>some v
 |some vs=>some (.aF vs)
 |none=>none
def kZ(c:Nat):List UInt8->Nat->Int
 |[],_=>-1
 |b::l,i=>match Nat.beq b.toNat c with
  |true=>Int.ofNat i
  |false=>kZ c l (i+1)
def vO(P:Program)(fn:Func)(name:String)(args:List aa)(h:I):Option (aa×I):=
 match args with
 |[.int .i64 (.ofNat n)]=>if name= "internal/bytealg.MakeNoZero" then
    (match fn.resultTypes[0]? with
    |some t=>match P.underlying t with
     |some (.slice e)=>match Nat.ble n 1099511627776 with
      |true=>some (.slice h.n 0 n (.aX 1),h.push (.cells (List.replicate n .bad) e .aX 0 0))
      |false=>none
     |_=>none
    |none=>none) else none
 |[x]=>if name= "internal/abi.NoEscape" then some (x,h) else
  if name= "maps.clone" then(match x with
   |.iface t (.map r)=>match h.get r with
    |some (.map es c)=>some (.iface t (.map h.n),h.push (.map es c))
    |_=>none
   |_=>none) else none
 |[.str s,.int .u8 (.ofNat c)]=>if name= "internal/bytealg.IndexByteString" then
    (match Nat.blt c 256 with
    |true=>some (.int .i64 (kZ c s 0),h)
    |false=>none) else none
 |_=>none
def pX:Option aa->cm
 |some v=>.act v
 |none=>.none
def uu(q:cm)(cM:Option aa):Option aa:=match q with
 |.done _=>none
 |_=>cM
def lF(P:Program)(call:ht->List aa->I->a8)(fn:Func)(args:List aa)(q:cm)(h:I):lD:=
 match fn.body with
 |some c=>match Nat.ble args.length fn.ntmps with
  |true=>eR P (e1 fn) none call c (vL 0 args .leaf) [] q h
  |false=>.fail ""
 |none=>.fail ""
def zV(P:Program)(fn:Func)(cM:Option aa):lD->Option (Option aa×I)
 |.ok e r d q h=>match(match e with|.nrm=>true|.ret=>true|_=>false),d,vN P (e1 fn) fn r h with
  |true,[],some _=>some (uu q cM,h)
  |_,_,_=>none
 |.fail _=>none
def mr(P:Program)(call:ht->List aa->I->a8)(need:Nat)(fn:Func)(r:bf):Nat->Option aa->List cc->I->a8
 |0,_,_,_=>.fail ""
 |k+1,cM,bN,h=>match bN with
  |[]=>match cM with
   |none=>match vN P need fn r h with
    |some v=>.ret v h
    |none=>.fail ""
   |some v=>.aK v h
  |.collected b::bN=>match h.get b with
   |some (.defrd (some cs))=>mr P call need fn r k cM (cs++bN) (h.set b (some (.defrd none)))
   |_=>.fail ""
  |.call g args::bN=>
   match P.funcs[g]? with
   |some cn=>match zV P cn cM (lF P call cn args (pX cM) h) with
    |some (Wa,ay)=>mr P call need fn r k Wa bN ay
    |none=>.fail ""
   |none=>.fail ""
def xG(P:Program)(call:ht->List aa->I->a8)(fn:Func):lD->a8
 |.ok .nrm r d _ h=>mr P call (e1 fn) fn r 100 none d h
 |.ok .ret r d _ h=>mr P call (e1 fn) fn r 100 none d h
 |.ok (.aK v) r d _ h=>mr P call (e1 fn) fn r 100 (some v) d h
 |.ok _ _ _ _ _=>.fail ""
 |.fail w=>.fail (w++ " < " ++fn.name)
def ta(P:Program)(call:ht->List aa->I->a8)(f:Nat)(args:List aa)(h:I):a8:=
 match P.funcs[f]? with
 |none=>.fail ""
 |some fn=>
  match fn.body with
  |none=>match vO P fn fn.name args h with
   |some (v,ay)=>.ret v ay
   |none=>.fail ""
  |some _=>xG P call fn (lF P call fn args .none h)
def BS:List Nat->List aa->bf->Option bf
 |[],[],r=>some r
 |t::bl,v::vs,r=>BS bl vs (r.set (jB t) v)
 |_,_,_=>none
def E8(l:Nat):lD->a8
 |.ok e _ [] _ h=>match h.get l with
  |some (.loop .busy _ bL rg ps as dG h5)=>match e with
   |.nrm=>.ret (.bool true) (h.set l (some (.loop .ready none bL rg ps as dG h5)))
   |.ret=>.ret (.bool false) (h.set l (some (.loop .done (some .ret) bL rg ps as dG h5)))
   |.exit id=>.ret (.bool false) (h.set l (some (.loop .done (some (.exit id)) bL rg ps as dG h5)))
   |.aK v=>.aK v h
   |.goto _=>.fail ""
  |_=>.fail ""
 |.ok .. =>.fail ""
 |.fail w=>.fail (w++ " < round")
def NP(P:Program)(call:ht->List aa->I->a8)(l need:Nat)(dG:Code):lD->a8
 |.ok .nrm r [] _ h=>match h.get l with
  |some (.loop .ready hr bL rg ps E9 E_ h5)=>E8 l (eR P need (some l) call dG r [] .none (h.set l (some (.loop .busy hr bL rg ps E9 E_ h5))))
  |_=>.fail ""
 |.ok .. =>.fail ""
 |.fail w=>.fail w
def Fa(P:Program)(call:ht->List aa->I->a8)(l:Nat)(args:List aa)(h:I):a8:=
 match h.get l with
 |some (.loop .ready _ need rg ps as dG _)=>
  match BS ps args rg with
  |none=>.fail ""
  |some jO=>NP P call l need dG (eR P need (some l) call as jO [] .none h)
 |_=>.fail ""
def eA(P:Program)(intr:Nat->List aa->I->Option (aa×I)):Nat->ht->List aa->I->a8
 |0,_,_,_=>.fail ""
 |n+1,.fn f,args,h=>match intr f args h with
  |some (v,ay)=>.ret v ay
  |none=>ta P (eA P intr n) f args h
 |n+1,.gJ l,args,h=>Fa P (eA P intr n) l args h
def xH(n:Nat):I:=⟨.leaf,n⟩
def o7(ops:Array Oper)(o:Oper):List Nat:=
 o.dst.toList++(o.op.operands.toList.filterMap λ|.tmp t=>some t|_=>none)++(match o.guard with|some (j,_)=>((ops[j]?).bind (·.dst)).toList|none=>[])
def r2(o:Oper)(i:Nat):Bool:=o.after.toList.all λe=>!Region.binds .any e||Nat.blt e.on i
def Fb(ops:Array Oper)(s:DStep):List DStep->Bool
 |[]=>true
 |bF::l=>(match(match s.o.dst with|some t=>(o7 ops bF.o).contains t|none=>false)||(match bF.o.dst with|some t=>(o7 ops s.o).contains t|none=>false) with
   |true=>Nat.testBit bF.fL s.i
   |false=>true)&&Fb ops s l
def uv(ops:Array Oper):List DStep->Bool
 |[]=>true
 |s::l=>r2 s.o s.i&&Fb ops s l&&uv ops l
def k0(cQ:Nat):Code->Bool
 |.region _ ops draw=>ops.toList.all (λo=>match o.dst with|some t=>Nat.blt t cQ|none=>true)&&(!draw||uv ops (fW ops.toList 0 [] []))
 |.seq a b=>k0 cQ a&&k0 cQ b
 |.cond _ a b=>k0 cQ a&&k0 cQ b
 |.block _ b|.loop b|.scope b=>k0 cQ b
 |.rangeFunc _ ps a b=>ps.toList.all (λt=>Nat.blt t cQ)&&k0 cQ a&&k0 cQ b
 |_=>true
end aJ
namespace aJ
open Go
variable {H:I}{w w':World}
def kf.num:kf->Nat
 |.here=>0
 |.l p=>2*p.num+1
 |.r p=>2*p.num+2
theorem NQ:∀(f n:Nat),n<=f->(BG f n).num=n
 |0,n,h=>by
  obtain rfl:n=0:=by omega
  rfl
 |f+1,0,_=>rfl
 |f+1,m+1,h=>by
  have e:Nat.mod m 2=m %2:=rfl
  have aE:Nat.div m 2=m/2:=rfl
  have bM:=NQ f (m/2) (by omega)
  simp only[BG,e,aE]
  rcases Nat.mod_two_eq_zero_or_one m with h0|J
  · simp only[h0,kf.num,bM];omega
  · simp only[J,kf.num,bM];omega
theorem Iy(n:Nat):(jB n).num=n:=NQ n n (Nat.le_refl n)
theorem Wb{m n:Nat}(h:jB m=jB n):m=n:=by rw[<-Iy m,<-Iy n,h]
theorem bf.vP(l:bf)(v:aa)(r:bf):bf.It l v r=.node l v r:=by cases l<;>rfl
theorem bf.vQ(l:bf)(v:aa)(r:bf):bf.Iu l v r=.node l v r:=by cases r<;>rfl
theorem bf.qY(p:kf):bf.get p .leaf=.bad:=by cases p<;>rfl
theorem bf.BT:∀(p:kf) (v:aa) (t:bf),(bf.set p v t).get p=v
 |.here,v,.leaf=>rfl
 |.here,v,.node .. =>rfl
 |.l p,v,.leaf=>by simp only[bf.set,bf.vP,bf.get];exact BT p v _
 |.l p,v,.node l _ _=>by simp only[bf.set,bf.vP,bf.get];exact BT p v _
 |.r p,v,.leaf=>by simp only[bf.set,bf.vQ,bf.get];exact BT p v _
 |.r p,v,.node .. =>by simp only[bf.set,bf.vQ,bf.get];exact BT p v _
theorem bf.BU:∀(p q:kf) (v:aa) (t:bf),p≠q->(bf.set q v t).get p=t.get p
 |.here,.here,_,_,h=>absurd rfl h
 |.here,.l q,v,.leaf,_=>by simp[bf.set,bf.vP,bf.get]
 |.here,.l q,v,.node ..,_=>by simp[bf.set,bf.vP,bf.get]
 |.here,.r q,v,.leaf,_=>by simp[bf.set,bf.vQ,bf.get]
 |.here,.r q,v,.node ..,_=>by simp[bf.set,bf.vQ,bf.get]
 |.l p,.here,v,.leaf,_=>by simp[bf.set,bf.get,bf.qY]
 |.l p,.here,v,.node ..,_=>by simp[bf.set,bf.get]
 |.r p,.here,v,.leaf,_=>by simp[bf.set,bf.get,bf.qY]
 |.r p,.here,v,.node ..,_=>by simp[bf.set,bf.get]
 |.l p,.l q,v,.leaf,h=>by
  simp only[bf.set,bf.vP,bf.get]
  rw[BU p q v _ (λe=>h (by rw[e])),bf.qY]
 |.l p,.l q,v,.node ..,h=>by
  simp only[bf.set,bf.vP,bf.get]
  exact BU p q v _ (λe=>h (by rw[e]))
 |.r p,.r q,v,.leaf,h=>by
  simp only[bf.set,bf.vQ,bf.get]
  rw[BU p q v _ (λe=>h (by rw[e])),bf.qY]
 |.r p,.r q,v,.node ..,h=>by
  simp only[bf.set,bf.vQ,bf.get]
  exact BU p q v _ (λe=>h (by rw[e]))
 |.l p,.r q,v,.leaf,_=>by simp[bf.set,bf.vQ,bf.get,bf.qY]
 |.l p,.r q,v,.node ..,_=>by simp[bf.set,bf.vQ,bf.get]
 |.r p,.l q,v,.leaf,_=>by simp[bf.set,bf.vP,bf.get,bf.qY]
 |.r p,.l q,v,.node ..,_=>by simp[bf.set,bf.vP,bf.get]
theorem bf.fk(t u:Nat)(v:aa)(r:bf):(bf.set (jB u) v r).get (jB t)=if t=u then v else r.get (jB t):=by
 by_cases h:t=u
 · subst h;simp[bf.BT]
 · rw[if_neg h];exact bf.BU _ _ _ _ (λe=>h (Wb e))
theorem fh.qY(n:Nat):fh.get .leaf n=none:=rfl
theorem fh.fk:∀(f:Nat) (t:fh) (n m:Nat) (x:Option b5),n<f->(fh.kB f t n x).get m=if m=n then x else t.get m
 |0,_,n,_,_,h=>by omega
 |f+1,.leaf,0,m,x,_=>by
  cases m with
  |zero=>simp[fh.kB,fh.get]
  |succ m=>
   simp only[fh.kB,fh.get]
   have e:Nat.mod m 2=m %2:=rfl
   rcases Nat.mod_two_eq_zero_or_one m with h|h<;>simp[e,h]
 |f+1,.node l v r,0,m,x,_=>by
  cases m with
  |zero=>simp[fh.kB,fh.get]
  |succ m=>simp[fh.kB,fh.get]
 |f+1,.leaf,n+1,m,x,aT=>by
  have e (k:Nat):Nat.mod k 2=k %2:=rfl
  have aE (k:Nat):Nat.div k 2=k/2:=rfl
  have bM:=λj=>fk f .leaf (n/2) j x (by omega)
  rcases Nat.mod_two_eq_zero_or_one n with h|h
  · simp only[fh.kB,e,h,aE]
    cases m with
    |zero=>simp[fh.get]
    |succ m=>
     simp only[fh.get,e,aE]
     rcases Nat.mod_two_eq_zero_or_one m with g|g
     · simp only[g,bM,fh.qY]
       have:(m/2=n/2)<->(m+1=n+1):=by omega
       simp only[this]
     · simp only[g,fh.qY]
       rw[if_neg (by omega)]
  · simp only[fh.kB,e,h,aE]
    cases m with
    |zero=>simp[fh.get]
    |succ m=>
     simp only[fh.get,e,aE]
     rcases Nat.mod_two_eq_zero_or_one m with g|g
     · simp only[g,fh.qY]
       rw[if_neg (by omega)]
     · simp only[g,bM,fh.qY]
       have:(m/2=n/2)<->(m+1=n+1):=by omega
       simp only[this]
 |f+1,.node l v r,n+1,m,x,aT=>by
  have e (k:Nat):Nat.mod k 2=k %2:=rfl
  have aE (k:Nat):Nat.div k 2=k/2:=rfl
  have Wc:=λj=>fk f l (n/2) j x (by omega)
  have Fc:=λj=>fk f r (n/2) j x (by omega)
  rcases Nat.mod_two_eq_zero_or_one n with h|h
  · simp only[fh.kB,e,h,aE]
    cases m with
    |zero=>simp[fh.get]
    |succ m=>
     simp only[fh.get,e,aE]
     rcases Nat.mod_two_eq_zero_or_one m with g|g
     · simp only[g,Wc]
       have:(m/2=n/2)<->(m+1=n+1):=by omega
       simp only[this]
     · simp only[g]
       rw[if_neg (by omega)]
  · simp only[fh.kB,e,h,aE]
    cases m with
    |zero=>simp[fh.get]
    |succ m=>
     simp only[fh.get,e,aE]
     rcases Nat.mod_two_eq_zero_or_one m with g|g
     · simp only[g]
       rw[if_neg (by omega)]
     · simp only[g,Fc]
       have:(m/2=n/2)<->(m+1=n+1):=by omega
       simp only[this]
theorem I.fk(h:I)(b c:Nat)(o:Option b5):(h.set b o).get c=if c=b then o else h.get c:=
 fh.fk _ _ _ _ _ (Nat.lt_succ_self b)
theorem I.mZ(h:I)(c:Nat)(o:b5):(h.push o).get c=if c=h.n then some o else h.get c:=
 fh.fk _ _ _ _ _ (Nat.lt_succ_self _)
@[simp] theorem I.zW (h:I) (b:Nat) (o:Option b5):(h.set b o).n=h.n:=rfl
@[simp] theorem I.vR (h:I) (o:b5):(h.push o).n=h.n+1:=rfl
structure gx where
 bo:Nat
 base:Nat
 size:Nat
abbrev bG:=Nat->Option gx
def fE(μ a2:bG):Prop:=∀b i,μ b=some i->a2 b=some i
theorem fE.refl(μ:bG):fE μ μ:=λ_ _ h=>h
theorem fE.trans{μ a2 NR:bG}(h:fE μ a2)(ay:fE a2 NR):fE μ NR:=λb i e=>ay b i (h b i e)
def Iz(i:gx)(off len:Nat):dn->Value->Prop
 |.exact c,v=>v=.slice (some ⟨i.bo,i.base+off,none⟩) len c
 |.aX h3,v=>∃c,v=.slice (some ⟨i.bo,i.base+off,none⟩) len c/\len<=c/\off+c*h3=i.size
 |.dead,v=>len=0/\∃a c,v=.slice (some a) 0 c
mutual
def bq(μ:bG):aa->Value->Prop
 |.bad,_=>True
 |.bool b,v=>v=.bool b
 |.int k n,v=>v=.int k n
 |.str s,v=>∃t,v=.string t/\t.data.toList=s
 |.au,v=>v=.pointer none
 |.ptr b off,v=>∃i,μ b=some i/\v=.pointer (some ⟨i.bo,i.base+off,none⟩)
 |.ao,v=>v=.slice none 0 0
 |.slice b off len cap,v=>∃i,μ b=some i/\Iz i off len cap v
 |.jA,v=>v=.map none
 |.map r,v=>∃i,μ r=some i/\v=.map (some i.bo)
 |.lg,v=>v=.nilFunc
 |.fn f first mT,v=>∃dh cs,v=.func (.func f) ⟨dh⟩ ⟨cs⟩/\cF μ first dh/\cF μ mT cs
 |.gJ l,v=>∃i,μ l=some i/\v=.func (.yield i.bo) ⟨[]⟩ ⟨[]⟩
 |.c3,v=>v=.nilIface
 |.iface t x,v=>∃y,v=.iface t y/\bq μ x y
 |.agg cs,v=>∃l,v=.agg ⟨l⟩/\cF μ cs l
 |.aF vs,v=>∃l,v=.tuple ⟨l⟩/\cF μ vs l
def cF(μ:bG):List aa->List Value->Prop
 |[],l=>l=[]
 |a::as,l=>∃v vs,l=v::vs/\bq μ a v/\cF μ as vs
end
mutual
theorem bq.mono{μ a2:bG}(hle:fE μ a2):∀(a:aa) (v:Value),bq μ a v->bq a2 a v
 |.bad,_,_=>trivial
 |.bool _,_,h=>h
 |.int _ _,_,h=>h
 |.str _,_,h=>h
 |.au,_,h=>h
 |.ptr b off,_,⟨i,h,e⟩=>⟨i,hle _ _ h,e⟩
 |.ao,_,h=>h
 |.slice b off len cap,_,⟨i,h,e⟩=>⟨i,hle _ _ h,e⟩
 |.jA,_,h=>h
 |.map r,_,⟨i,h,e⟩=>⟨i,hle _ _ h,e⟩
 |.lg,_,h=>h
 |.fn f first mT,_,⟨dh,cs,e,J,ae⟩=>⟨dh,cs,e,cF.mono hle _ _ J,cF.mono hle _ _ ae⟩
 |.gJ l,_,⟨i,h,e⟩=>⟨i,hle _ _ h,e⟩
 |.c3,_,h=>h
 |.iface t x,_,⟨y,e,h⟩=>⟨y,e,bq.mono hle _ _ h⟩
 |.agg cs,_,⟨l,e,h⟩=>⟨l,e,cF.mono hle _ _ h⟩
 |.aF cs,_,⟨l,e,h⟩=>⟨l,e,cF.mono hle _ _ h⟩
theorem cF.mono{μ a2:bG}(hle:fE μ a2):∀(as:List aa) (vs:List Value),cF μ as vs->cF a2 as vs
 |[],_,h=>h
 |a::as,_,⟨v,vs,e,J,ae⟩=>⟨v,vs,e,bq.mono hle _ _ J,cF.mono hle _ _ ae⟩
end
mutual
theorem mu(μ:bG):∀v:Value,bq μ (r0 v) v
 |.bool b=>rfl
 |.int k n=>rfl
 |.string s=>⟨s,rfl,rfl⟩
 |.pointer none=>rfl
 |.pointer (some _)=>trivial
 |.slice none 0 0=>rfl
 |.slice none 0 (_+1)=>trivial
 |.slice none (_+1) _=>trivial
 |.slice (some _) _ _=>trivial
 |.map none=>rfl
 |.map (some _)=>trivial
 |.nilFunc=>rfl
 |.nilIface=>rfl
 |.agg ⟨cs⟩=>⟨cs,rfl,IA μ cs⟩
 |.tuple ⟨cs⟩=>⟨cs,rfl,IA μ cs⟩
 |.float _ _=>trivial
 |.complex _ _ _=>trivial
 |.chan _=>trivial
 |.func _ _ _=>trivial
 |.iface _ _=>trivial
theorem IA(μ:bG):∀vs:List Value,cF μ (ET vs) vs
 |[]=>rfl
 |v::vs=>⟨v,vs,rfl,mu μ v,IA μ vs⟩
end
theorem cF.length{μ:bG}:∀{as:List aa} {vs:List Value},cF μ as vs->as.length=vs.length
 |[],_,h=>by cases h;rfl
 |a::as,_,⟨v,vs,e,_,ae⟩=>by subst e;simp[cF.length ae]
theorem cF.append{μ:bG}:∀{as bs:List aa} {vs us:List Value},cF μ as vs->cF μ bs us->cF μ (as++bs) (vs++us)
 |[],_,_,_,h,ay=>by cases h;exact ay
 |a::as,_,_,_,⟨v,vs,e,J,ae⟩,ay=>by subst e;exact⟨v,vs++_,rfl,J,cF.append ae ay⟩
theorem cF.get{μ:bG}:∀{as:List aa} {vs:List Value} (_:cF μ as vs) {j:Nat} {a:aa},as[j]? =some a->∃v,vs[j]? =some v/\bq μ a v
 |[],_,_,j,a,h=>by simp at h
 |x::as,_,⟨v,vs,e,J,ae⟩,0,a,h=>by
  subst e;simp at h;subst h;exact⟨v,rfl,J⟩
 |x::as,_,⟨v,vs,e,J,ae⟩,j+1,a,h=>by
  subst e;simp at h;simpa using cF.get ae h
theorem cF.BV{μ:bG}:∀{as:List aa} {vs:List Value},as.length=vs.length->(∀(j:Nat) (a:aa),as[j]? =some a->∃v,vs[j]? =some v/\bq μ a v)->cF μ as vs
 |[],[],_,_=>rfl
 |[],_::_,h,_=>by simp at h
 |_::_,[],h,_=>by simp at h
 |a::as,v::vs,h,ar=>by
  refine⟨v,vs,rfl,?_,cF.BV (by simpa using h) λj x ab=>?_⟩
  · obtain⟨u,hu,r⟩:=ar 0 a rfl
    simp at hu;subst hu;exact r
  · simpa using ar (j+1) x (by simpa using ab)
theorem cF.map{μ:bG}{xI:Type}(g:xI->aa)(cT:xI->Value)(h:∀x,bq μ (g x) (cT x)):∀l:List xI,cF μ (l.map g) (l.map cT)
 |[]=>rfl
 |x::l=>⟨_,_,rfl,h x,cF.map g cT h l⟩
theorem bq.cells{μ:bG}{a:aa}{v:Value}(h:bq μ a v)(ag:a≠ .bad):cF μ a.cells v.cells.toList:=by
 cases a with
 |bad=>exact absurd rfl ag
 |agg cs=>obtain⟨l,rfl,aA⟩:=h;exact aA
 |aF vs=>obtain⟨l,rfl,aA⟩:=h;exact⟨_,_,rfl,⟨l,rfl,aA⟩,rfl⟩
 |bool b=>cases h;exact⟨_,_,rfl,rfl,rfl⟩
 |int k n=>cases h;exact⟨_,_,rfl,rfl,rfl⟩
 |str s=>obtain⟨t,rfl,e⟩:=h;exact⟨_,_,rfl,⟨t,rfl,e⟩,rfl⟩
 |au=>cases h;exact⟨_,_,rfl,rfl,rfl⟩
 |ptr b off=>obtain⟨i,e,rfl⟩:=h;exact⟨_,_,rfl,⟨i,e,rfl⟩,rfl⟩
 |ao=>cases h;exact⟨_,_,rfl,rfl,rfl⟩
 |slice b off len cap=>
  obtain⟨i,e,ak⟩:=h
  have:v.cells=#[v]:=by
   cases cap with
   |exact c=>cases ak;rfl
   |aX h3=>obtain⟨c,rfl,_⟩:=ak;rfl
   |dead=>obtain⟨_,a,c,rfl⟩:=ak;rfl
  rw[this];exact⟨_,_,rfl,⟨i,e,ak⟩,rfl⟩
 |jA=>cases h;exact⟨_,_,rfl,rfl,rfl⟩
 |map r=>obtain⟨i,e,rfl⟩:=h;exact⟨_,_,rfl,⟨i,e,rfl⟩,rfl⟩
 |lg=>cases h;exact⟨_,_,rfl,rfl,rfl⟩
 |fn f a b=>obtain⟨dh,cs,rfl,J,ae⟩:=h;exact⟨_,_,rfl,⟨dh,cs,rfl,J,ae⟩,rfl⟩
 |gJ l=>obtain⟨i,e,rfl⟩:=h;exact⟨_,_,rfl,⟨i,e,rfl⟩,rfl⟩
 |c3=>cases h;exact⟨_,_,rfl,rfl,rfl⟩
 |iface t x=>obtain⟨y,rfl,bH⟩:=h;exact⟨_,_,rfl,⟨y,rfl,bH⟩,rfl⟩
theorem bq.BW{μ:bG}{a:aa}{v:Value}(h:bq μ a v)(ak:a.dJ=true):v.oneCell'=true:=by
 cases a with
 |bad=>simp[aa.dJ] at ak
 |agg cs=>simp[aa.dJ] at ak
 |aF vs=>simp[aa.dJ] at ak
 |bool b=>cases h;rfl
 |int k n=>cases h;rfl
 |str s=>obtain⟨t,rfl,e⟩:=h;rfl
 |au=>cases h;rfl
 |ptr b off=>obtain⟨i,e,rfl⟩:=h;rfl
 |ao=>cases h;rfl
 |slice b off len cap=>
  obtain⟨i,e,ak⟩:=h
  cases cap with
  |exact c=>cases ak;rfl
  |aX h3=>obtain⟨c,rfl,_⟩:=ak;rfl
  |dead=>obtain⟨_,a,c,rfl⟩:=ak;rfl
 |jA=>cases h;rfl
 |map r=>obtain⟨i,e,rfl⟩:=h;rfl
 |lg=>cases h;rfl
 |fn f a b=>obtain⟨dh,cs,rfl,J,ae⟩:=h;rfl
 |gJ l=>obtain⟨i,e,rfl⟩:=h;rfl
 |c3=>cases h;rfl
 |iface t x=>obtain⟨y,rfl,bH⟩:=h;rfl
def lj(need:Nat)(μ:bG)(r:bf)(cH:Array Value):Prop:=∀t,Nat.testBit need t=true->bq μ (r.get (jB t)) (cH.getD t undef)
theorem lj.mono{need:Nat}{μ a2:bG}{r:bf}{cH:Array Value}(hle:fE μ a2)(h:lj need μ r cH):lj need a2 r cH:=λt aI=>(h t aI).mono hle
inductive xJ(μ:bG):cc->Deferred->Prop where
 |call (f:Nat) (args:List aa) (cap vs:List Value) (h:cF μ args (vs++cap)):xJ μ (.call f args) {target:=.fn (.func f) ⟨cap⟩,args:=⟨vs⟩}
 |collected (r:Nat) (i:gx) (h:μ r=some i):xJ μ (.collected r) {target:=.collected i.bo,args:=#[]}
theorem xJ.mono{μ a2:bG}(hle:fE μ a2){a:cc}{d:Deferred}(h:xJ μ a d):xJ a2 a d:=by
 cases h with
 |call f args cap vs h=>exact .call f args cap vs (h.mono hle)
 |collected r i h=>exact .collected r i (hle _ _ h)
def iB(μ:bG):List cc->List Deferred->Prop
 |[],l=>l=[]
 |a::as,l=>∃d bN,l=d::bN/\xJ μ a d/\iB μ as bN
theorem iB.mono{μ a2:bG}(hle:fE μ a2):∀{as:List cc} {bN:List Deferred},iB μ as bN->iB a2 as bN
 |[],_,h=>h
 |_::_,_,⟨d,bN,e,J,ae⟩=>⟨d,bN,e,J.mono hle,iB.mono hle ae⟩
theorem iB.append{μ:bG}:∀{as bs:List cc} {bN es:List Deferred},iB μ as bN->iB μ bs es->iB μ (as++bs) (bN++es)
 |[],_,_,_,h,ay=>by cases h;exact ay
 |_::_,_,_,_,⟨d,bN,e,J,ae⟩,ay=>by subst e;exact⟨d,bN++_,rfl,J,iB.append ae ay⟩
def zX(μ:bG)(e:ga)(m:MapEntry):Prop:=bq μ e.key m.key/\bq μ e.val m.val/\e.born=m.born
def hE(μ:bG):List ga->List MapEntry->Prop
 |[],l=>l=[]
 |e::es,l=>∃m ms,l=m::ms/\zX μ e m/\hE μ es ms
theorem zX.mono{μ a2:bG}(hle:fE μ a2){e:ga}{m:MapEntry}(h:zX μ e m):zX a2 e m:=⟨h.1.mono hle,h.2.1.mono hle,h.2.2⟩
theorem hE.mono{μ a2:bG}(hle:fE μ a2):∀{es:List ga} {ms:List MapEntry},hE μ es ms->hE a2 es ms
 |[],_,h=>h
 |_::_,_,⟨m,ms,e,J,ae⟩=>⟨m,ms,e,J.mono hle,hE.mono hle ae⟩
def BX(μ:bG)(cs:List aa)(c:Array Value)(base:Nat):Prop:=∀(j:Nat) (v:aa),cs[j]? =some v->∃u,c[base+j]? =some u/\bq μ v u
def IB(k:ff)(cs:List aa)(i:gx)(lo hi fr fs:Nat):Prop:=match k with
 |.own=>i.base=0/\i.size=cs.length/\fr=lo/\fs=hi
 |.aX=>cs.length<=i.size/\∀j,j<i.size->fr<=i.base+j->i.base+j<fs->lo<=j/\j<hi
 |.ro=>True
 |.fz=>True
def qZ(μ:bG)(o:b5)(i:gx)(w:World):Prop:=match o with
 |.cells cs el k lo hi=>∃c fr fs,w.heap[i.bo]? =some (.cells c el (fr,fs))/\BX μ cs c i.base/\i.base+i.size=c.size/\IB k cs i lo hi fr fs
 |.map es clock=>∃ents,w.heap[i.bo]? =some (.map ⟨ents⟩ clock)/\hE μ es ents
 |.fp s pos=>i.base=0/\∃full,w.heap[i.bo]? =some (.stringIter full pos)/\full.data.toList.drop pos=s
 |.mapIter none since seen last=>i.base=0/\w.heap[i.bo]? =some (.mapIter none since ⟨seen⟩ last)
 |.mapIter (some m) since seen last=>i.base=0/\∃j,μ m=some j/\w.heap[i.bo]? =some (.mapIter (some j.bo) since ⟨seen⟩ last)
 |.loop st hr need pR params as dG h5=>∃cH jP fn,μ h5=some jP/\w.heap[i.bo]? =some (.loop {state:=st,pending:=hr,fn:=fn,tmps:=cH,params:=⟨params⟩,assign:=as,body:=dG,defers:=jP.bo})/\lj need μ pR cH/\k0 cH.size as=true/\k0 cH.size dG=true/\∀t∈params,t<cH.size
 |.defrd none=>w.heap[i.bo]? =some (.deferred none)
 |.defrd (some bN)=>∃l,w.heap[i.bo]? =some (.deferred (some l))/\iB μ bN l
 |.raw o=>i.base=0/\w.heap[i.bo]? =some o
theorem qZ.mono{μ a2:bG}(hle:fE μ a2){o:b5}{i:gx}(hw:w'.heap[i.bo]? =w.heap[i.bo]?)(h:qZ μ o i w):qZ a2 o i w':=by
 cases o with
 |cells cs el k lo hi=>
  obtain⟨c,fr,fs,J,ae,aq⟩:=h
  exact⟨c,fr,fs,hw.trans J,λj v e=>let⟨u,hu,r⟩:=ae j v e;⟨u,hu,r.mono hle⟩,aq⟩
 |map es clock=>obtain⟨ents,J,ae⟩:=h;exact⟨ents,hw.trans J,ae.mono hle⟩
 |fp s pos=>obtain⟨h0,full,J,ae⟩:=h;exact⟨h0,full,hw.trans J,ae⟩
 |mapIter m since seen last=>
  cases m with
  |none=>exact⟨h.1,hw.trans h.2⟩
  |some m=>obtain⟨h0,j,J,ae⟩:=h;exact⟨h0,j,hle _ _ J,hw.trans ae⟩
 |loop st hr fn pR params as dG h5=>obtain⟨cH,jP,IC,J,ae,aq,aQ⟩:=h;exact⟨cH,jP,IC,hle _ _ J,hw.trans ae,aq.mono hle,aQ⟩
 |defrd calls=>
  cases calls with
  |none=>exact hw.trans h
  |some bN=>obtain⟨l,J,ae⟩:=h;exact⟨l,hw.trans J,ae.mono hle⟩
 |raw o=>exact⟨h.1,hw.trans h.2⟩
def b5.q0:b5->Bool
 |.cells _ _ .ro _ _=>true
 |.raw _=>true
 |_=>false
structure bI(μ:bG)(H:I)(w:World):Prop where
 rel:∀b o i,H.get b=some o->μ b=some i->qZ μ o i w
 inj:∀b c i j,H.get b≠none->(∃o,H.get c=some o/\o.q0=false)->μ b=some i->μ c=some j->i.bo=j.bo->b=c
 lt:∀b i,μ b=some i->b<H.n/\i.bo<w.heap.size
 bound:∀b,H.n<=b->H.get b=none
structure cD(μ:bG)(H:I)(w:World)(a2:bG)(a7:I)(w':World):Prop where
 le:fE μ a2
 size:w.heap.size<=w'.heap.size
 n:H.n<=a7.n
 live:∀b,b<H.n->a7.get b≠none->H.get b≠none
 idle:∀b,b<H.n->μ b=none->a7.get b=H.get b
 old:∀r,r<w.heap.size->(∀b i,H.get b≠none->μ b=some i->i.bo≠r)->w'.heap[r]? =w.heap[r]?
 new:∀b i,μ b=none->a2 b=some i->H.n<=b/\(w.heap.size<=i.bo\/∃c o j,H.get c=some o/\o.q0=false/\μ c=some j/\j.bo=i.bo)
 ro:∀b o i,H.get b=some o->o.q0=true->μ b=some i->a7.get b=some o/\w'.heap[i.bo]? =w.heap[i.bo]?
 os:w'.os=w.os
 out:w'.output=w.output
 tape:w'.tape=w.tape
 drawn:w.drawn<=w'.drawn
theorem cD.refl(μ:bG)(H:I)(w:World):cD μ H w μ H w where
 le:=fE.refl μ
 size:=Nat.le_refl _
 n:=Nat.le_refl _
 live:=λ_ _ h=>h
 idle:=λ_ _ _=>rfl
 old:=λ_ _ _=>rfl
 new:=λb i h ay=>by rw[h] at ay;cases ay
 ro:=λ_ _ _ h _ _=>⟨h,rfl⟩
 os:=rfl
 out:=rfl
 tape:=rfl
 drawn:=Nat.le_refl _
theorem cD.trans{μ gy Fe:bG}{H1 a4:I}{b_ b9:World}(ar:bI μ H w)(fR:bI gy H1 b_)(h:cD μ H w gy H1 b_)(ay:cD gy H1 b_ Fe a4 b9):cD μ H w Fe a4 b9 where
 le:=h.le.trans ay.le
 size:=Nat.le_trans h.size ay.size
 n:=Nat.le_trans h.n ay.n
 live:=λb ag aA=>h.live b ag (ay.live b (Nat.lt_of_lt_of_le ag h.n) aA)
 idle:=λb ag hm=>by
  rw[<-h.idle b ag hm]
  refine ay.idle b (Nat.lt_of_lt_of_le ag h.n) ?_
  cases J:gy b with
  |none=>rfl
  |some i=>exact absurd (h.new b i hm J).1 (Nat.not_le.2 ag)
 old:=λr aj aT=>by
  rw[ay.old r (Nat.lt_of_lt_of_le aj h.size),h.old r aj aT]
  intro b i aA hm he
  cases Ff:μ b with
  |some j=>
   have:=h.le b j Ff
   rw[hm] at this;cases this
   exact aT b i (h.live b (ar.lt b i Ff).1 aA) Ff he
  |none=>
   obtain⟨_,hi|⟨c,o,j,ak,_,aL,r3⟩⟩:=h.new b i Ff hm
   · omega
   · exact aT c j (by rw[ak];simp) aL (r3.trans he)
 new:=λb i ag en=>by
  cases J:gy b with
  |some j=>
   have:=ay.le b j J
   rw[en] at this;cases this
   exact h.new b i ag J
  |none=>
   obtain⟨aT,hi|⟨c,o,j,ak,hx,aL,r3⟩⟩:=ay.new b i J en
   · exact⟨Nat.le_trans h.n aT,.inl (Nat.le_trans h.size hi)⟩
   · refine⟨Nat.le_trans h.n aT,?_⟩
     cases h0:μ c with
     |some k1=>
      have:=h.le c k1 h0
      rw[aL] at this;cases this
      have zY:H.get c≠none:=h.live c (ar.lt c j h0).1 (by rw[ak];simp)
      cases aB:H.get c with
      |none=>exact absurd aB zY
      |some xK=>
       cases zZ:xK.q0 with
       |false=>exact .inr ⟨c,xK,j,aB,zZ,h0,r3⟩
       |true=>
        have:=(h.ro c xK j aB zZ h0).1
        rw[ak] at this;cases this
        rw[hx] at zZ;cases zZ
     |none=>
      obtain⟨_,hi|⟨c',o',k1,BY,Fg,ID,Wd⟩⟩:=h.new c j h0 aL
      · exact .inl (r3▸hi)
      · exact .inr ⟨c',o',k1,BY,Fg,ID,Wd.trans r3⟩
 ro:=λb o i ag aj hi=>by
  obtain⟨J,ae⟩:=h.ro b o i ag aj hi
  obtain⟨aq,aQ⟩:=ay.ro b o i J aj (h.le b i hi)
  exact⟨aq,aQ.trans ae⟩
 os:=ay.os.trans h.os
 out:=ay.out.trans h.out
 tape:=ay.tape.trans h.tape
 drawn:=Nat.le_trans h.drawn ay.drawn
theorem bI.of_heap{μ:bG}(h:bI μ H w)(he:w'.heap=w.heap):bI μ H w' where
 rel:=λb o i ag hi=>(h.rel b o i ag hi).mono (fE.refl μ) (by rw[he])
 inj:=h.inj
 lt:=λb i hi=>by rw[he];exact h.lt b i hi
 bound:=h.bound
theorem cD.of_heap{μ:bG}{H:I}(he:w'.heap=w.heap)(bg:w'.os=w.os)(a3:w'.output=w.output)(aI:w'.tape=w.tape)(aH:w.drawn<=w'.drawn:=by first|exact Nat.le_refl _|exact Nat.le_succ _|assumption):cD μ H w μ H w' where
 le:=fE.refl μ
 size:=by rw[he];exact Nat.le_refl _
 n:=Nat.le_refl _
 live:=λ_ _ h=>h
 idle:=λ_ _ _=>rfl
 old:=λ_ _ _=>by rw[he]
 new:=λb i h ay=>by rw[h] at ay;cases ay
 ro:=λ_ _ _ h _ _=>⟨h,by rw[he]⟩
 os:=bg
 out:=a3
 tape:=aI
 drawn:=aH
def h6(μ:bG)(b:Nat)(i:gx):bG:=λc=>if c=b then some i else μ c
theorem h7(μ:bG)(b:Nat)(i:gx):h6 μ b i b=some i:=by simp[h6]
theorem js(μ:bG){b c:Nat}(i:gx)(h:c≠b):h6 μ b i c=μ c:=by simp[h6,h]
theorem bI.fresh{μ:bG}(h:bI μ H w):μ H.n=none:=by
 cases e:μ H.n with
 |none=>rfl
 |some i=>exact absurd (h.lt _ _ e).1 (Nat.lt_irrefl _)
theorem bI.r4{μ:bG}(h:bI μ H w)(i:gx):fE μ (h6 μ H.n i):=λb j e=>by
 rw[js];exact e
 intro ag;subst ag;rw[h.fresh] at e;cases e
theorem bI.alloc{μ:bG}(h:bI μ H w)(o:b5)(x:Obj)(sz:Nat)
  (aj:qZ (h6 μ H.n ⟨w.heap.size,0,sz⟩) o ⟨w.heap.size,0,sz⟩ (w.alloc x)):
  bI (h6 μ H.n ⟨w.heap.size,0,sz⟩) (H.push o) (w.alloc x)/\cD μ H w (h6 μ H.n ⟨w.heap.size,0,sz⟩) (H.push o) (w.alloc x):=by
 have hle:=h.r4 ⟨w.heap.size,0,sz⟩
 have hold:∀r,r<w.heap.size->(w.alloc x).heap[r]? =w.heap[r]? :=λr aj=>by
  simp only[World.alloc,Array.getElem?_push];rw[if_neg (by omega)]
 constructor
 · refine⟨λb ob i ag hi=>?_,λb c i j ag ak hi aL e=>?_,λb i hi=>?_,λb ag=>?_⟩
   · rw[I.mZ] at ag
     by_cases e:b=H.n
     · rw[if_pos e] at ag;subst e;cases ag
       rw[h7] at hi;cases hi
       exact aj
     · rw[if_neg e] at ag;rw[js _ _ e] at hi
       exact(h.rel b ob i ag hi).mono hle (hold _ (h.lt b i hi).2)
   · by_cases aG:b=H.n
     · by_cases aE:c=H.n
       · rw[aG,aE]
       · subst aG;rw[h7] at hi;cases hi
         rw[js _ _ aE] at aL
         have:=(h.lt c j aL).2
         simp only at e;omega
     · by_cases aE:c=H.n
       · subst aE;rw[h7] at aL;cases aL
         rw[js _ _ aG] at hi
         have:=(h.lt b i hi).2
         simp only at e;omega
       · rw[js _ _ aG] at hi;rw[js _ _ aE] at aL
         rw[I.mZ,if_neg aG] at ag
         rw[I.mZ,if_neg aE] at ak
         exact h.inj b c i j ag ak hi aL e
   · by_cases e:b=H.n
     · subst e;rw[h7] at hi;cases hi;simp
     · rw[js _ _ e] at hi
       have:=h.lt b i hi
       simp only[I.vR,World.size_alloc];omega
   · simp only[I.vR] at ag
     rw[I.mZ,if_neg (by omega)];exact h.bound b (by omega)
 · refine⟨hle,by simp,by simp,λb ag aA=>?_,λb ag _=>(by rw[I.mZ,if_neg (by omega)]),λr aj _=>hold r aj,λb i ag en=>?_,λb ob i ag _ hi=>?_,rfl,rfl,rfl,Nat.le_refl _⟩
   · rw[I.mZ,if_neg (by omega)] at aA;exact aA
   · by_cases e:b=H.n
     · subst e;rw[h7] at en;cases en;exact⟨Nat.le_refl _,.inl (Nat.le_refl _)⟩
     · rw[js _ _ e,ag] at en;cases en
   · have:=h.lt b i hi
     rw[I.mZ,if_neg (by omega)]
     exact⟨ag,hold _ this.2⟩
theorem bI.update{μ:bG}(h:bI μ H w){b:Nat}{o o':b5}{i:gx}(ag:H.get b=some o)(hx:o.q0=false)(hi:μ b=some i)
  (ah:w'.heap.size=w.heap.size)(bg:∀r,r≠i.bo->w'.heap[r]? =w.heap[r]?)(BZ:w'.os=w.os)(IE:w'.output=w.output)(IF:w'.tape=w.tape)(aj:qZ μ o' i w')(hdr:w.drawn<=w'.drawn:=by first|exact Nat.le_refl _|assumption):
  bI μ (H.set b (some o')) w'/\cD μ H w μ (H.set b (some o')) w':=by
 have zY:H.get b≠none:=by rw[ag];simp
 have r5:∀c,(H.set b (some o')).get c≠none->H.get c≠none:=λc ak=>by
  rw[I.fk] at ak
  by_cases e:c=b
  · subst e;exact zY
  · rw[if_neg e] at ak;exact ak
 constructor
 · refine⟨λc l0 j ak aL=>?_,λc d j k ak aH=>h.inj c d j k (r5 c ak) (by
     obtain⟨x,ab,B0⟩:=aH
     rw[I.fk] at ab
     by_cases e:d=b
     · subst e;exact⟨o,ag,hx⟩
     · rw[if_neg e] at ab;exact⟨x,ab,B0⟩),λc j aL=>by rw[ah];exact h.lt c j aL,λc ak=>?_⟩
   · rw[I.fk] at ak
     by_cases e:c=b
     · subst e;rw[if_pos rfl] at ak;cases ak
       rw[hi] at aL;cases aL;exact aj
     · rw[if_neg e] at ak
       refine(h.rel c l0 j ak aL).mono (fE.refl μ) (bg _ λb0=>e (h.inj c b j i (by rw[ak];simp) ⟨o,ag,hx⟩ aL hi b0))
   · rw[I.fk,if_neg]
     · exact h.bound c ak
     · intro e;subst e;have:=(h.lt c i hi).1;simp at ak;omega
 · refine⟨fE.refl μ,by omega,by simp,λc _ ak=>r5 c ak,λc _ hm=>(by rw[I.fk,if_neg];intro e;subst e;rw[hi] at hm;cases hm),λr aj aT=>bg r λe=>aT b i zY hi e.symm,λc j J ae=>(by rw[J] at ae;cases ae),λc l0 j ak vS aL=>?_,BZ,IE,IF,hdr⟩
   have dk:c≠b:=by intro e;subst e;rw[ag] at ak;cases ak;rw[hx] at vS;cases vS
   refine⟨by rw[I.fk,if_neg dk];exact ak,bg _ λe=>dk (h.inj c b j i (by rw[ak];simp) ⟨o,ag,hx⟩ aL hi e)⟩
end aJ
namespace aJ
open Go
variable {H:I}{b lo n off:Nat}{cs:List aa}{i:gx}{k:ff}{μ:bG}
theorem add_plain(b o n:Nat):(⟨b,o,none⟩:Addr).add n=⟨b,o+n,none⟩:=by
 unfold Addr.add
 by_cases h:n=0
 · simp[h]
 · simp[h]
theorem j0{α:Type}:∀(n:Nat) (l:List α),nth n l=l[n]?
 |0,[]=>rfl
 |_+1,[]=>rfl
 |0,_::_=>rfl
 |n+1,_::l=>by simpa[nth] using j0 n l
theorem om{α:Type}:∀(n:Nat) (l:List α),lC n l=l.drop n
 |0,l=>by simp[lC]
 |_+1,[]=>by simp[lC]
 |n+1,_::l=>by simpa[lC] using om n l
theorem xL:∀(n:Nat) (l r:List aa),takeN n l=some r->n<=l.length/\r=l.take n
 |0,l,r,h=>by simp[takeN] at h;subst h;simp
 |_+1,[],r,h=>by simp[takeN] at h
 |n+1,a::l,r,h=>by
  simp only[takeN] at h
  cases e:takeN n l with
  |none=>simp[e] at h
  |some r'=>
   simp[e] at h;subst h
   obtain⟨J,ae⟩:=xL n l r' e
   simp[ae];omega
theorem Fh:∀(n:Nat) (vs cs r:List aa),gK n vs cs=some r->
  r.length=cs.length/\(vs≠[]->n+vs.length<=cs.length)/\(∀v∈vs,v.dJ=true)/\∀j,r[j]? =if n<=j/\j<n+vs.length then vs[j-n]? else cs[j]?
 |0,[],cs,r,h=>by
  simp[gK] at h;subst h
  refine⟨rfl,λh=>absurd rfl h,λv aW=>(by cases aW),λj=>by rw[if_neg (by simp)]⟩
 |0,_::_,[],r,h=>by simp[gK] at h
 |0,v::vs,c::cs,r,h=>by
  simp only[gK] at h
  cases ak:v.dJ with
  |false=>simp[ak] at h
  |true=>
   simp only[ak] at h
   cases e:gK 0 vs cs with
   |none=>simp[e] at h
   |some r'=>
    simp[e] at h;subst h
    obtain⟨J,ae,aq,aQ⟩:=Fh 0 vs cs r' e
    refine⟨by simp[J],λ_=>?_,λx ab=>?_,λj=>?_⟩
    · cases vs with
      |nil=>simp
      |cons a l=>have:=ae (by simp);simp at this⊢;omega
    · cases ab with
      |head=>exact ak
      |tail _ ab=>exact aq x ab
    · cases j with
      |zero=>simp
      |succ j=>simpa using aQ j
 |n+1,[],cs,r,h=>by
  simp[gK] at h;subst h
  refine⟨rfl,λh=>absurd rfl h,λv aW=>(by cases aW),λj=>by rw[if_neg (by simp)]⟩
 |n+1,_::_,[],r,h=>by simp[gK] at h
 |n+1,v::vs,c::cs,r,h=>by
  simp only[gK] at h
  cases e:gK n (v::vs) cs with
  |none=>simp[e] at h
  |some r'=>
   simp[e] at h;subst h
   obtain⟨J,ae,aq,aQ⟩:=Fh n (v::vs) cs r' e
   refine⟨by simp[J],λ_=>?_,aq,λj=>?_⟩
   · have:=ae (by simp);simp at this⊢;omega
   · cases j with
     |zero=>simp
     |succ j=>
      have:=aQ j
      simp only[List.getElem?_cons_succ,this,List.length_cons]
      have aG:(n+1<=j+1/\j+1<n+1+(vs.length+1))<->(n<=j/\j<n+(vs.length+1)):=by omega
      have aE:j+1-(n+1)=j-n:=by omega
      simp only[aG,aE]
theorem B1{w:World}{bo el fr fs:Nat}{c:Array Value}(h:w.heap[bo]? =some (.cells c el (fr,fs)))(k:Nat):w.cell? ⟨bo,k,none⟩=c[k]? :=by
 simp[World.cell?,h]
theorem IG{w:World}(ar:bI μ H w)(hi:μ b=some i){el e5:Nat}(ag:H.get b=some (.cells cs el k lo e5))
  {v:aa}(aW:cs[off]? =some v):∃u,w.cell? ⟨i.bo,i.base+off,none⟩=some u/\bq μ v u:=by
 obtain⟨c,fr,fs,J,ae,_⟩:=ar.rel b _ i ag hi
 obtain⟨u,hu,r⟩:=ae off v aW
 exact⟨u,by rw[B1 J,hu],r⟩
theorem NS{P:Program}{w:World}{a:Addr}{u:Value}(h:w.cell? a=some u):(_root_.Go.load a).run P w=.ok u w:=by
 rw[run_load];simp[h]
theorem We{P:Program}{w:World}(ar:bI μ H w)(hi:μ b=some i){el e5:Nat}(ag:H.get b=some (.cells cs el k lo e5))(off:Nat):
  ∀(n s:Nat) (acc:Array Value) (vT:List aa),takeN n (lC (off+s) cs)=some vT->
   ∃us:List Value,(loadCellsFrom ⟨i.bo,i.base+off,none⟩ s n acc).run P w=.ok (acc++us.toArray) w/\cF μ vT us:=by
 intro n
 induction n with
 |zero=>
  intro s acc vT h
  simp[takeN] at h;subst h
  exact⟨[],by simp[loadCellsFrom],rfl⟩
 |succ n bM=>
  intro s acc vT h
  rw[om] at h
  cases aH:cs.drop (off+s) with
  |nil=>rw[aH] at h;simp[takeN] at h
  |cons a l=>
   rw[aH] at h
   simp only[takeN] at h
   cases e:takeN n l with
   |none=>simp[e] at h
   |some r=>
    simp[e] at h;subst h
    have a_:cs[off+s]? =some a:=by
     have:=congrArg (·[0]?) aH
     simpa[List.getElem?_drop] using this
    have aA:l=lC (off+(s+1)) cs:=by
     rw[om]
     have:=congrArg (List.drop 1) aH
     simp only[List.drop_drop,List.drop_succ_cons,List.drop_zero] at this
     rw[<-this];congr 1
    obtain⟨u,hu,aj⟩:=IG ar hi ag a_
    obtain⟨us,J,ae⟩:=bM (s+1) (acc.push u) r (by rw[<-aA];exact e)
    refine⟨u::us,?_,⟨u,us,rfl,aj,ae⟩⟩
    have vU:w.cell? ((⟨i.bo,i.base+off,none⟩:Addr).add s)=some u:=by rw[add_plain,Nat.add_assoc];exact hu
    simp only[loadCellsFrom,Sem.run_bind,NS vU,Result.andThen_ok,J]
    congr 1
    apply Array.ext'
    simp
theorem vV{P:Program}{w:World}(ar:bI μ H w)(hi:μ b=some i){vT:List aa}(h:loadCells H b off n=some vT):
  ∃us:List Value,(_root_.Go.loadCells ⟨i.bo,i.base+off,none⟩ n).run P w=.ok ⟨us⟩ w/\cF μ vT us:=by
 unfold loadCells at h
 split at h
 · rename_i cs el k lo e5 ag
   obtain⟨us,J,ae⟩:=We (P:=P) ar hi ag off n 0 #[] vT h
   exact⟨us,by simpa[_root_.Go.loadCells] using J,ae⟩
 · cases h
theorem IH{P:Program}{w:World}(ar:bI μ H w)(hi:μ b=some i){v:aa}(h:aC H b off=some v):
  ∃u,(_root_.Go.load ⟨i.bo,i.base+off,none⟩).run P w=.ok u w/\bq μ v u:=by
 unfold aC at h
 split at h
 · rename_i cs el k lo e5 ag
   rw[j0] at h
   obtain⟨u,hu,aj⟩:=IG ar hi ag h
   exact⟨u,NS hu,aj⟩
 · cases h
theorem NT(P:Program)(bo k:Nat):∀(vs:List Value) (w:World) (i:Nat) (c:Array Value) (el fr fs:Nat),w.heap[bo]? =some (.cells c el (fr,fs))->
  (∀v∈vs,v.oneCell'=true)->k+i+vs.length<=c.size->(∀j,k+i<=j->j<k+i+vs.length->¬(fr<=j/\j<fs))->
  ∃w' c',(_root_.Go.storeCells ⟨bo,k,none⟩ vs i).run P w=.ok () w'/\w'.heap[bo]? =some (.cells c' el (fr,fs))/\(∀r,r≠bo->w'.heap[r]? =w.heap[r]?)/\w'.heap.size=w.heap.size/\
   w'.os=w.os/\w'.output=w.output/\(w'.tape=w.tape/\w'.drawn=w.drawn)/\c'.size=c.size/\∀j,c'[j]? =if k+i<=j/\j<k+i+vs.length then vs[j-(k+i)]? else c[j]? :=by
 intro vs
 induction vs with
 |nil=>
  intro w i c el fr fs ag _ _ _
  exact⟨w,c,by simp[_root_.Go.storeCells],ag,λ_ _=>rfl,rfl,rfl,rfl,⟨rfl,rfl⟩,rfl,λj=>by rw[if_neg (by simp)]⟩
 |cons v vs bM=>
  intro w i c el fr fs ag ak ah aM
  simp only[List.length_cons] at ah aM
  have cf:k+i<c.size:=by omega
  have uw:w.cell? ⟨bo,k+i,none⟩=some c[k+i]:=by rw[B1 ag];exact Array.getElem?_eq_getElem cf
  have Wf:w.frozen? ⟨bo,k+i,none⟩=false:=by
   have:=aM (k+i) (by omega) (by omega)
   simp only[World.frozen?,ag]
   cases J:decide (fr<=k+i) with
   |false=>rfl
   |true=>
    cases ae:decide (k+i<fs) with
    |false=>rfl
    |true=>exact absurd ⟨of_decide_eq_true J,of_decide_eq_true ae⟩ this
  have iZ:(w.setCell ⟨bo,k+i,none⟩ v).heap[bo]? =some (.cells (c.setIfInBounds (k+i) v) el (fr,fs)):=by
   simp[World.setCell,Array.getElem?_modify,ag]
  obtain⟨w',c',J,ae,aq,aQ,bj,cW,eS,e6,mv⟩:=bM (w.setCell ⟨bo,k+i,none⟩ v) (i+1) (c.setIfInBounds (k+i) v) el fr fs iZ (λx ab=>ak x (.tail _ ab)) (by simp;omega)
   (λj ald ale=>aM j (by omega) (by omega))
  refine⟨w',c',?_,ae,λr aj=>?_,?_,bj,cW,eS,by simpa using e6,λj=>?_⟩
  · simp only[_root_.Go.storeCells,Sem.run_bind,add_plain,run_store P w ⟨bo,k+i,none⟩ v .plain (ak v (.head _)),uw,Wf,Bool.false_eq_true,if_false,Result.andThen_ok,J]
  · rw[aq r aj];simp only[World.setCell,Array.getElem?_modify]
    rw[if_neg (λe=>aj e.symm)]
  · rw[aQ];simp[World.setCell]
  · rw[mv j]
    by_cases e:j=k+i
    · subst e
      rw[if_neg (by omega),if_pos (by simp),Array.getElem?_setIfInBounds]
      simp[cf]
    · by_cases aE:k+(i+1)<=j/\j<k+(i+1)+vs.length
      · rw[if_pos aE,if_pos (by simp only[List.length_cons];omega)]
        have:j-(k+i)=(j-(k+(i+1)))+1:=by omega
        rw[this];simp
      · rw[if_neg aE,if_neg (by simp only[List.length_cons];omega),Array.getElem?_setIfInBounds]
        rw[if_neg (λb0=>e b0.symm)]
theorem cF.BW:∀{as:List aa} {vs:List Value},cF μ as vs->(∀a∈as,a.dJ=true)->∀v∈vs,v.oneCell'=true
 |[],_,h,_=>by cases h;intro v aW;cases aW
 |a::as,_,⟨v,vs,e,J,ae⟩,ak=>by
  subst e
  intro x ab
  cases ab with
  |head=>exact J.BW (ak a (.head _))
  |tail _ ab=>exact cF.BW ae (λa a_=>ak a (.tail _ a_)) x ab
theorem Wg{hi:Nat}(hw:og k lo hi off n=true){fr fs:Nat}(ai:IB k cs i lo hi fr fs)(eF:n=0\/off+n<=i.size):
  ∀j,i.base+off<=j->j<i.base+off+n->¬(fr<=j/\j<fs):=by
 intro j J ae ⟨aq,aQ⟩
 cases k with
 |ro=>simp[og] at hw
 |fz=>simp[og] at hw
 |own=>
  obtain⟨ag,ah,rfl,rfl⟩:=ai
  simp only[og,Bool.or_eq_true,Nat.ble_eq] at hw
  omega
 |aX=>
  obtain⟨ah,aM⟩:=ai
  simp only[og,Bool.or_eq_true,Nat.ble_eq] at hw
  have:=aM (j-i.base) (by omega) (by omega) (by omega)
  omega
theorem B2{P:Program}{w:World}(ar:bI μ H w)(hi:μ b=some i){vs:List aa}{us:List Value}(aW:cF μ vs us){a7:I}
  (h:storeCells H b off vs=some a7):
  ∃w',(_root_.Go.storeCells ⟨i.bo,i.base+off,none⟩ us).run P w=.ok () w'/\bI μ a7 w'/\cD μ H w μ a7 w':=by
 unfold storeCells at h
 split at h
 · rename_i cs el k lo e5 ag
   split at h
   · rename_i hw
     split at h
     · rename_i cq a3
       cases h
       obtain⟨dt,dv,gD,kE⟩:=Fh _ _ _ _ a3
       obtain⟨c,fr,fs,J,ae,aq,aQ⟩:=ar.rel b _ i ag hi
       have hlen:=aW.length
       have bQ:vs≠[]->off+vs.length<=i.size/\i.base+off+vs.length<=c.size:=λdk=>by
        have:=dv dk
        have vW:=ae (cs.length-1) (cs[cs.length-1]'(by cases vs with|nil=>exact absurd rfl dk|cons a l=>simp at this;omega)) (List.getElem?_eq_getElem _)
        obtain⟨u,hu,_⟩:=vW
        have cf:i.base+(cs.length-1)<c.size:=by
         rcases Nat.lt_or_ge (i.base+(cs.length-1)) c.size with h|h
         · exact h
         · rw[Array.getElem?_eq_none h] at hu;cases hu
        have xM:0<vs.length:=by cases vs with|nil=>exact absurd rfl dk|cons a l=>simp
        cases k with
        |ro=>simp[og] at hw
        |fz=>simp[og] at hw
        |own=>obtain⟨c8,c9,_⟩:=aQ;omega
        |aX=>obtain⟨c8,_⟩:=aQ;omega
       by_cases dk:vs=[]
       · subst dk
         have:us=[]:=by cases us with|nil=>rfl|cons a l=>simp at hlen
         subst this
         have lG:cq=cs:=by
          apply List.ext_getElem?
          intro j;rw[kE j,if_neg (by simp)]
         subst lG
         obtain⟨bt,b3⟩:=ar.update (w':=w) ag (by cases k<;>first|rfl|simp[og] at hw) hi rfl (λ_ _=>rfl) rfl rfl rfl (ar.rel b _ i ag hi)
         exact⟨w,by simp[_root_.Go.storeCells],bt,b3⟩
       · obtain⟨s1,s2⟩:=bQ dk
         obtain⟨w',c',aG,aE,br,dw,hh,h8,o8,kF,xN⟩:=NT P i.bo (i.base+off) us w 0 c el fr fs J (aW.BW gD) (by omega)
          (by have:=Wg hw aQ (.inr s1);rw[hlen] at this;simpa using this)
         obtain⟨bt,b3⟩:=ar.update (w':=w') (o':=.cells cq el k lo e5) ag (by cases k<;>first|rfl|simp[og] at hw) hi dw br hh h8 o8.1 (hdr:=Nat.le_of_eq o8.2.symm)
          ⟨c',fr,fs,aE,λj v aL=>by
           rw[kE j] at aL
           rw[xN]
           by_cases aj:off<=j/\j<off+vs.length
           · rw[if_pos aj] at aL
             rw[if_pos (by omega)]
             have:i.base+j-(i.base+off+0)=j-off:=by omega
             rw[this];exact aW.get aL
           · rw[if_neg aj] at aL
             rw[if_neg (by omega)]
             exact ae j v aL,by omega,by
           cases k with
           |ro=>trivial
           |fz=>trivial
           |own=>obtain⟨c8,c9,gf⟩:=aQ;exact⟨c8,by omega,gf⟩
           |aX=>obtain⟨c8,c9⟩:=aQ;exact⟨by omega,c9⟩⟩
         exact⟨w',aG,bt,b3⟩
     · cases h
   · cases h
 · cases h
theorem World.heap_alloc_new(w:World)(x:Obj):(w.alloc x).heap[w.heap.size]? =some x:=by unfold World.alloc;simp
theorem Fi{P:Program}{w:World}(ar:bI μ H w){el:Nat}{us:List Value}{a7:I}(aW:cF μ cs us)(h:newRow H el cs=some (b,a7)):
  (_root_.Go.newRow el ⟨us⟩).run P w=.ok ⟨w.heap.size,0,none⟩ (w.alloc (.cells ⟨us⟩ el))/\b=H.n/\h6 μ H.n ⟨w.heap.size,0,us.length⟩ b=some ⟨w.heap.size,0,us.length⟩/\
   bI (h6 μ H.n ⟨w.heap.size,0,us.length⟩) a7 (w.alloc (.cells ⟨us⟩ el))/\cD μ H w (h6 μ H.n ⟨w.heap.size,0,us.length⟩) a7 (w.alloc (.cells ⟨us⟩ el)):=by
 unfold newRow at h
 split at h
 · cases h
   have hle:=ar.r4 ⟨w.heap.size,0,us.length⟩
   obtain⟨bt,b3⟩:=ar.alloc (.cells cs el .own 0 0) (.cells ⟨us⟩ el) us.length
    ⟨⟨us⟩,0,0,by exact World.heap_alloc_new _ _,λj v aL=>by
      obtain⟨u,hu,aj⟩:=aW.get aL
      exact⟨u,by simpa using hu,aj.mono hle⟩,by simp,rfl,aW.length.symm,rfl,rfl⟩
   exact⟨by simp[_root_.Go.newRow],rfl,h7 _ _ _,bt,b3⟩
 · cases h
section types
variable {P:Program} {w:World} {t:TypeId}
theorem run_typeInfo{i:TypeInfo}(h:P.info? t=some i):(typeInfo t).run P w=.ok i w:=by simp[typeInfo,h]
theorem b7{d:TypeDesc}(h:P.underlying t=some d):(underlying t).run P w=.ok d w:=by simp[underlying,h]
theorem run_sizeOf(h:eg P t=some n):(_root_.Go.sizeOf t).run P w=Result.ok n w:=by
 unfold eg at h
 split at h
 · rename_i i hi;cases h;simp[_root_.Go.sizeOf,run_typeInfo hi]
 · cases h
theorem z0{b:Bool}(h:oh P t=some b):(isAgg t).run P w=.ok b w:=by
 unfold oh at h
 cases hu:P.underlying t with
 |none=>rw[hu] at h;cases h
 |some d=>
  rw[hu] at h
  simp only[isAgg,Sem.run_bind,b7 hu,Result.andThen_ok]
  cases d<;>cases h<;>rfl
theorem o9{z:aa}(h:gu P t=some z):∃v,(zeroValue t).run P w=.ok v w/\z=r0 v/\z≠ .bad:=by
 unfold gu at h
 split at h
 · rename_i i hi
   split at h
   · rename_i v aW
     split at h
     · cases h
     · rename_i a dk
       cases h
       exact⟨v,by simp[zeroValue,run_typeInfo hi,aW],rfl,dk⟩
   · cases h
 · cases h
end types
end aJ
namespace aJ
open Go
variable {a7:I}{b n sz:Nat}{cs:List aa}{e t:TypeId}{v:Value}{z:aa}
def gT(P:Program)(μ:bG)(H:I)(w:World)(s:Sem Value)(v:aa)(a7:I):Prop:=
 ∃a2 w' v',s.run P w=.ok v' w'/\bq a2 v v'/\bI a2 a7 w'/\cD μ H w a2 a7 w'
theorem gT.same{P:Program}{μ:bG}{H:I}{w:World}{s:Sem Value}{v:aa}{v':Value}(ar:bI μ H w)(ah:s.run P w=.ok v' w)(aW:bq μ v v'):gT P μ H w s v H:=
 ⟨μ,w,v',ah,aW,ar,cD.refl _ _ _⟩
section
variable {P:Program} {μ:bG} {H:I} {w:World}
theorem Wh(ar:bI μ H w)(bm:gu P e=some z)(aj:newRow H e z.cells=some (b,a7)):
  gT P μ H w (Instr.alloc e true (.tuple #[])) (.ptr b 0) a7:=by
 obtain⟨v,aW,rfl,ag⟩:=o9 (w:=w) bm
 have ak:=(mu μ v).cells ag
 obtain⟨J,rfl,ae,aq,aQ⟩:=Fi (P:=P) ar ak aj
 refine⟨_,_,.pointer (some ⟨w.heap.size,0,none⟩),?_,⟨_,ae,by simp⟩,aq,aQ⟩
 simp[Instr.alloc,aW,newVar,J]
theorem Wi(ar:bI μ H w){x:aa}(aW:bq μ x v)(aj:newRow H e x.cells=some (b,a7)):
  gT P μ H w (Instr.box e v) (.ptr b 0) a7:=by
 have ag:x≠ .bad:=by intro h;rw[h] at aj;simp[newRow,aa.cells,aa.dJ] at aj
 obtain⟨J,rfl,ae,aq,aQ⟩:=Fi (P:=P) ar (aW.cells ag) aj
 refine⟨_,_,.pointer (some ⟨w.heap.size,0,none⟩),?_,⟨_,ae,by simp⟩,aq,aQ⟩
 simp[Instr.box,newVar,J]
theorem Wj(ar:bI μ H w){off:Nat}(aW:bq μ (.ptr b off) v):
  (∀n cs,oh P t=some true->eg P t=some n->loadCells H b off n=some cs->gT P μ H w (Instr.loadAt t v) (.agg cs) H)/\
  (∀x,oh P t=some false->aC H b off=some x->gT P μ H w (Instr.loadAt t v) x H):=by
 obtain⟨i,hi,rfl⟩:=aW
 constructor
 · intro n cs a_ aT aA
   obtain⟨us,J,ae⟩:=vV (P:=P) ar hi aA
   exact .same ar (v':=.agg ⟨us⟩) (by simp[Instr.loadAt,Instr.sureAddr,loadVar,z0 a_,run_sizeOf aT,J]) ⟨us,rfl,ae⟩
 · intro x a_ aA
   obtain⟨u,J,ae⟩:=IH (P:=P) ar hi aA
   exact .same ar (v':=u) (by simp only[Instr.loadAt,Instr.sureAddr,loadVar,Sem.run_bind,Sem.run_pure,Result.andThen_ok,z0 a_,Bool.false_eq_true,if_false,J]) ae
theorem Wk(ar:bI μ H w){off:Nat}{u:Value}{x:aa}(aW:bq μ (.ptr b off) v)(ab:bq μ x u)(ag:x≠ .bad)(aT:eg P t=some n)(aA:x.cells.length=n)
  (ah:storeCells H b off x.cells=some a7):
  ∃w',(Instr.storeAt t v u).run P w=.ok () w'/\bI μ a7 w'/\cD μ H w μ a7 w':=by
 obtain⟨i,hi,rfl⟩:=aW
 have ak:=ab.cells ag
 obtain⟨w',J,ae,aq⟩:=B2 (P:=P) ar hi ak ah
 refine⟨w',?_,ae,aq⟩
 have bQ:u.cells.size=n:=by have:=ak.length;rw[aA] at this;simpa using this.symm
 simp[Instr.storeAt,Instr.sureAddr,storeVar,run_sizeOf aT,bQ,J]
theorem NU(off:Nat):∀(l:List Value) (s:Nat) (cs:Array Value),off+s+l.length<=cs.size->
  ((l.zipIdx s).foldl (λcs (x:Value×Nat)=>cs.setIfInBounds (off+x.2) x.1) cs).size=cs.size/\
  ∀j:Nat,((l.zipIdx s).foldl (λcs (x:Value×Nat)=>cs.setIfInBounds (off+x.2) x.1) cs)[j]? =if off+s<=j/\j<off+s+l.length then l[j-(off+s)]? else cs[j]?
 |[],s,cs,_=>by
  refine⟨rfl,λj=>by rw[if_neg (by simp)];rfl⟩
 |a::l,s,cs,h=>by
  simp only[List.length_cons] at h
  obtain⟨J,ae⟩:=NU off l (s+1) (cs.setIfInBounds (off+s) a) (by simp;omega)
  simp only[List.zipIdx_cons,List.foldl_cons]
  refine⟨by rw[J];simp,λj=>?_⟩
  rw[ae j]
  by_cases e:j=off+s
  · subst e
    rw[if_neg (by omega),if_pos (by simp),Array.getElem?_setIfInBounds]
    simp;omega
  · by_cases aE:off+(s+1)<=j/\j<off+(s+1)+l.length
    · rw[if_pos aE,if_pos (by simp only[List.length_cons];omega)]
      have:j-(off+s)=(j-(off+(s+1)))+1:=by omega
      rw[this];simp
    · rw[if_neg aE,if_neg (by simp only[List.length_cons];omega),Array.getElem?_setIfInBounds,if_neg (λb0=>e b0.symm)]
theorem B3(place:Nat->Option (Nat×Nat)){xI:Type}(g:xI->aa)(cT:xI->Value)(aB:∀x,bq μ (g x) (cT x)):∀(ps:List (Nat×xI)) (cs r:List aa) (c:Array Value),cF μ cs c.toList->
  lZ place cs (ps.map λp=>(p.1,g p.2))=some r->∃c':List Value,Instr.fill place c (ps.map λp=>(p.1,cT p.2))=some ⟨c'⟩/\cF μ r c'
 |[],cs,r,c,ak,h=>by
  simp[lZ] at h;subst h
  exact⟨c.toList,by simp[Instr.fill],ak⟩
 |(k,x)::ps,cs,r,c,ak,h=>by
  simp only[List.map_cons] at h⊢
  have aW:=aB x
  generalize g x=v at h aW
  generalize cT x=u at aW⊢
  have ag:v≠ .bad:=by intro e;subst e;simp[lZ] at h
  have B4:∃off size cq,place k=some (off,size)/\v.cells.length=size/\off+size<=cs.length/\gK off v.cells cs=some cq/\lZ place cq (ps.map λp=>(p.1,g p.2))=some r:=by
   cases v<;>first
    |exact absurd rfl ag
    |(simp only[lZ] at h
      split at h
      · cases h
      · rename_i off size B5
        split at h
        · rename_i bQ
          simp only[Bool.and_eq_true,Nat.ble_eq] at bQ
          split at h
          · rename_i cq B6
            exact⟨off,size,cq,B5,Nat.eq_of_beq_eq_true bQ.1,bQ.2,B6,h⟩
          · cases h
        · cases h)
  obtain⟨off,size,cq,B5,bQ,hbound,B6,vX⟩:=B4
  obtain⟨dt,dv,gD,kE⟩:=Fh _ _ _ _ B6
  have m0:=aW.cells ag
  have aA:=m0.length
  have q1:=ak.length
  have aq:c.toList.length=c.size:=by simp
  have Wl:u.cells.size=size:=by rw[<-bQ,aA];simp
  obtain⟨f1,f2⟩:=NU off u.cells.toList 0 c (by simp;omega)
  have Wm:(u.cells.zipIdx.foldl (λcs (x:Value×Nat)=>cs.setIfInBounds (off+x.2) x.1) c)=((u.cells.toList.zipIdx 0).foldl (λcs (x:Value×Nat)=>cs.setIfInBounds (off+x.2) x.1) c):=by
   rw[<-Array.foldl_toList,Array.toList_zipIdx]
  have key:cF μ cq (u.cells.zipIdx.foldl (λcs (x:Value×Nat)=>cs.setIfInBounds (off+x.2) x.1) c).toList:=by
   rw[Wm]
   refine cF.BV (by rw[dt,q1];simpa using f1.symm) λj a a_=>?_
   rw[kE j] at a_
   rw[Array.getElem?_toList,f2 j]
   have Wn:u.cells.toList.length=v.cells.length:=aA.symm
   by_cases aj:off<=j/\j<off+v.cells.length
   · rw[if_pos aj] at a_;rw[if_pos (by omega)]
     exact m0.get (by simpa using a_)
   · rw[if_neg aj] at a_;rw[if_neg (by omega)]
     simpa using ak.get a_
  obtain⟨c',al,aw⟩:=B3 place g cT aB ps cq r _ key vX
  refine⟨c',?_,aw⟩
  simp only[Instr.fill,B5,Wl]
  rw[if_neg (by simp;omega)]
  exact al
theorem Wo(h:eg P t=some n):P.cellsOf t=n:=by
 unfold eg at h
 split at h
 · rename_i i hi;cases h;simp[Program.cellsOf,hi]
 · cases h
theorem run_places(w:World):∀l:List Field,(l.all λf=>(eg P f.type).isSome)=true->
  (l.mapM (λf=>do pure (f.offset,<-_root_.Go.sizeOf f.type):Field->Sem (Nat×Nat))).run P w=.ok (l.map λf=>(f.offset,P.cellsOf f.type)) w
 |[],_=>rfl
 |f::l,h=>by
  simp only[List.all_cons,Bool.and_eq_true] at h
  obtain⟨n,aT⟩:=Option.isSome_iff_exists.1 h.1
  simp only[List.mapM_cons,Sem.run_bind,run_sizeOf aT,Result.andThen_ok,Sem.run_pure,run_places w l h.2,List.map_cons,Wo aT]
theorem Wp(ar:bI μ H w)(g:Operand->aa)(cT:Operand->Value)(aB:∀x,bq μ (g x) (cT x))(bm:gu P t=some z){dh:Array Field}(hu:P.underlying t=some (.struct dh))
  (gZ:(dh.toList.all λf=>(eg P f.type).isSome)=true)(parts:Array (Nat×Operand))
  (aM:lZ (λi=>(dh[i]?).map λf=>(f.offset,P.cellsOf f.type)) z.cells (parts.toList.map λp=>(p.1,g p.2))=some cs):
  gT P μ H w (Instr.build t (parts.map λ(i,x)=>(i,cT x))) (.agg cs) H:=by
 obtain⟨v,aW,rfl,ag⟩:=o9 (w:=w) bm
 have ak:=(mu μ v).cells ag
 obtain⟨c',J,ae⟩:=B3 _ g cT aB parts.toList _ cs v.cells ak aM
 have a3:=run_places (P:=P) w dh.toList gZ
 refine .same ar (v':=.agg ⟨c'⟩) ?_ ⟨c',rfl,ae⟩
 have hm:(dh.mapM (λf=>do pure (f.offset,<-_root_.Go.sizeOf f.type):Field->Sem (Nat×Nat))).run P w=.ok (dh.map λf=>(f.offset,P.cellsOf f.type)) w:=by
  obtain⟨l⟩:=dh
  have e:(l.toArray.mapM (λf=>do pure (f.offset,<-_root_.Go.sizeOf f.type):Field->Sem (Nat×Nat)))=List.toArray<$>l.mapM (λf=>do pure (f.offset,<-_root_.Go.sizeOf f.type)):=List.mapM_toArray
  refine(congrArg (λs:Sem (Array (Nat×Nat))=>s.run P w) e).trans ?_
  simp only[Sem.run_map]
  rw[show(Sem.run P (List.mapM (λf=>do pure (f.offset,<-_root_.Go.sizeOf f.type):Field->Sem (Nat×Nat)) l) w)=_ from a3];simp
 have Wq:(λi:Nat=>(dh.map λf=>(f.offset,P.cellsOf f.type))[i]?)=λi=>(dh[i]?).map λf=>(f.offset,P.cellsOf f.type):=by
  funext i;simp
 simp only[Instr.build,Sem.run_bind,aW,Result.andThen_ok,b7 hu,hm,Wq,Array.toList_map,J]
 rfl
theorem Wr(ar:bI μ H w)(g:Operand->aa)(cT:Operand->Value)(aB:∀x,bq μ (g x) (cT x))(bm:gu P t=some z)(hu:P.underlying t=some (.array n e))
  (ah:eg P e=some sz)(parts:Array (Nat×Operand))
  (aM:lZ (λi=>some (i*sz,sz)) z.cells (parts.toList.map λp=>(p.1,g p.2))=some cs):
  gT P μ H w (Instr.build t (parts.map λ(i,x)=>(i,cT x))) (.agg cs) H:=by
 obtain⟨v,aW,rfl,ag⟩:=o9 (w:=w) bm
 have ak:=(mu μ v).cells ag
 obtain⟨c',J,ae⟩:=B3 _ g cT aB parts.toList _ cs v.cells ak aM
 refine .same ar (v':=.agg ⟨c'⟩) ?_ ⟨c',rfl,ae⟩
 simp only[Instr.build,Sem.run_bind,aW,Result.andThen_ok,b7 hu,run_sizeOf ah,Array.toList_map,J]
 rfl
theorem NV{α:Type}(n:Nat)(l:List α):(iW n l).length=n*l.length:=by
 induction n with
 |zero=>simp[iW]
 |succ n bM=>simp[iW,bM,Nat.succ_mul];omega
theorem NW{α:Type}:∀(n:Nat) (l:List α) (j:Nat),j<n*l.length->(iW n l)[j]? =l[j %l.length]?
 |0,l,j,h=>by simp at h
 |n+1,l,j,h=>by
  simp only[iW]
  by_cases e:j<l.length
  · rw[List.getElem?_append_left e,Nat.mod_eq_of_lt e]
  · rw[List.getElem?_append_right (by omega),NW n l (j-l.length) (by rw[Nat.succ_mul] at h;omega)]
    have:(j-l.length) %l.length=j %l.length:=by
     have ar:j=(j-l.length)+l.length:=by omega
     conv=>rhs;rw[ar,Nat.add_mod_right]
    rw[this]
theorem B7{q2:List aa}{zero:Array Value}(bm:cF μ q2 zero.toList)(ah:q2.length=sz)(n:Nat):
  cF μ (iW n q2) ((Array.range (n*sz)).map (λi=>zero[i %zero.size]!)).toList:=by
 have aA:=bm.length
 have aq:zero.toList.length=zero.size:=by simp
 refine cF.BV (by rw[NV,ah];simp) λj a a_=>?_
 have aL:j<n*q2.length:=by
  rcases Nat.lt_or_ge j (n*q2.length) with h|h
  · exact h
  · rw[List.getElem?_eq_none (by rw[NV];exact h)] at a_;cases a_
 rw[NW n q2 j aL] at a_
 obtain⟨u,hu,aj⟩:=bm.get a_
 refine⟨u,?_,aj⟩
 have xM:0<q2.length:=by
  rcases Nat.eq_zero_or_pos q2.length with h|h
  · rw[h] at aL;simp at aL
  · exact h
 have cf:j %zero.size<zero.size:=Nat.mod_lt _ (by omega)
 have aG:q2.length=zero.size:=by omega
 rw[aG] at hu
 rw[Array.getElem?_toList] at hu
 rw[Array.getElem?_toList,Array.getElem?_map,Array.getElem?_range]
 rw[if_pos (by rw[<-ah];exact aL)]
 simp only[Option.map_some]
 rw[Array.getElem?_eq_getElem cf] at hu
 simp only[Option.some.injEq] at hu
 rw[getElem!_pos zero _ cf,hu]
theorem Ws(ar:bI μ H w)(g:Operand->aa)(cT:Operand->Value)(aB:∀x,bq μ (g x) (cT x)){len:Nat}(hu:P.underlying t=some (.slice e))(ah:eg P e=some sz)
  (bm:gu P e=some z)(hle:len*sz<=16777216)(q3:z.cells.length=sz)(parts:Array (Nat×Operand))
  (aM:lZ (λi=>some (i*sz,sz)) (if len*sz=0 then[] else iW len z.cells) (parts.toList.map λp=>(p.1,g p.2))=some cs)(aj:newRow H e cs=some (b,a7)):
  gT P μ H w (Instr.buildSlice t len (parts.map λ(i,x)=>(i,cT x))) (.slice b 0 len (.exact len)) a7:=by
 obtain⟨v,aW,rfl,ag⟩:=o9 (w:=w) bm
 have ak:=(mu μ v).cells ag
 have B8:¬(len*sz>2^24):=by omega
 have key:∀zero:Array Value,cF μ (if len*sz=0 then[] else iW len (r0 v).cells) ((Array.range (len*sz)).map (λi=>zero[i %zero.size]!)).toList->
   (∀r:Result Value,r=(match Instr.fill (λi=>some (i*sz,sz)) ((Array.range (len*sz)).map (λi=>zero[i %zero.size]!)) (parts.toList.map λp=>(p.1,cT p.2)) with
    |some cells=>do pure (.slice (some (<-_root_.Go.newRow e cells)) len len)
    |none=>stuck "buildSlice: a part of the wrong size" :Sem Value).run P w->(Instr.buildSlice t len (parts.map λ(i,x)=>(i,cT x))).run P w=r)->
   gT P μ H w (Instr.buildSlice t len (parts.map λ(i,x)=>(i,cT x))) (.slice b 0 len (.exact len)) a7:=by
  intro zero q4 dD
  obtain⟨c',J,ae⟩:=B3 _ g cT aB parts.toList _ cs _ q4 aM
  obtain⟨bn,rfl,b6,dc,ct⟩:=Fi (P:=P) ar ae aj
  refine⟨_,_,.slice (some ⟨w.heap.size,0,none⟩) len len,?_,⟨_,b6,by simp[Iz]⟩,dc,ct⟩
  refine dD _ ?_
  rw[J]
  simp[bn]
 by_cases h0:len*sz=0
 · refine key #[] (by rw[if_pos h0,h0];simp[cF]) λr aj=>?_
   rw[aj]
   simp only[Instr.buildSlice,Sem.run_bind,b7 hu,Result.andThen_ok,run_sizeOf ah,if_neg B8,if_pos h0,Sem.run_pure,Array.toList_map]
   generalize Instr.fill _ _ _=F
   cases F<;>rfl
 · refine key v.cells (by rw[if_neg h0];exact B7 ak q3 len) λr aj=>?_
   rw[aj]
   simp only[Instr.buildSlice,Sem.run_bind,b7 hu,Result.andThen_ok,run_sizeOf ah,if_neg B8,if_neg h0,Sem.run_pure,Array.toList_map,aW]
   generalize Instr.fill _ _ _=F
   cases F<;>rfl
end
end aJ
namespace aJ
open Go
variable {k:IntKind}{n:Nat}{op:BinOp}{v:aa}
theorem r6(n:Nat)(h:n<9223372036854775808):IntKind.wrap .i64 (n:Int)=(n:Int):=by
 have e:((n:Int) %18446744073709551616)=n:=by omega
 have aE:(2:Int)^64=18446744073709551616:=by rfl
 have br:(2:Int)^63=9223372036854775808:=by rfl
 simp only[IntKind.wrap,IntKind.bits,IntKind.signed,aE,br,e,Bool.true_and,decide_eq_true_eq,Nat.add_one_sub_one]
 rw[if_neg (by show¬((2:Int)^63<=n);rw[br];omega)]
section
variable {P:Program} {μ:bG} {H:I} {w:World}
theorem Wt(ar:bI μ H w){t e:TypeId}{l c:Nat}{i:TypeInfo}{z:aa}{kl kc:IntKind}(hu:P.underlying t=some (.slice e))(hi:P.info? e=some i)(bm:gu P e=some z)(q1:l<=c)
  (z1:c*(i.bytes+1)<=1099511627776)(q3:z.cells.length=i.size){b:Nat}{a7:I}(aj:newRow H e (if c*i.size=0 then[] else iW c z.cells)=some (b,a7)):
  gT P μ H w (Instr.makeSlice t (.int kl l) (.int kc c)) (.slice b 0 l (.exact c)) a7:=by
 obtain⟨v,aW,rfl,ag⟩:=o9 (w:=w) bm
 have ak:=(mu μ v).cells ag
 have II:c<=1099511627776:=Nat.le_trans (Nat.le_mul_of_pos_right c (by omega)) z1
 have tb:i.bytes*c<=1099511627776:=by
  have:c*i.bytes<=c*(i.bytes+1):=Nat.mul_le_mul_left c (by omega)
  rw[Nat.mul_comm];omega
 have B9:∀n:Nat,n<=1099511627776->IntKind.wrap .i64 (n:Int)=(n:Int):=λn aT=>r6 n (by omega)
 have r7:=B9 l (by omega)
 have B_:=B9 c II
 have xO:¬((c:Int)<0||(i.bytes:Int)*(c:Int)>2^48||(l:Int)<0||(l:Int)>(c:Int))=true:=by
  have J:((i.bytes:Int)*(c:Int))<=1099511627776:=by
   have h0:((i.bytes*c:Nat):Int)<=1099511627776:=by omega
   rw[Int.natCast_mul] at h0;exact h0
  have ae:(2:Int)^48=281474976710656:=by rfl
  generalize (i.bytes:Int)*(c:Int)=q at J⊢
  rw[ae]
  simp only[Bool.or_eq_true,decide_eq_true_eq]
  omega
 have key:∀zero:Array Value,cF μ (if c*i.size=0 then[] else iW c (r0 v).cells) ((Array.range (c*i.size)).map (λj=>zero[j %zero.size]!)).toList->
   (Instr.makeSlice t (.int kl l) (.int kc c)).run P w=(do let a<-_root_.Go.newRow e ((Array.range (c*i.size)).map (λj=>zero[j %zero.size]!));pure (.slice (some a) l c):Sem Value).run P w->
   gT P μ H w (Instr.makeSlice t (.int kl l) (.int kc c)) (.slice b 0 l (.exact c)) a7:=by
  intro zero q4 dD
  obtain⟨bn,rfl,b6,dc,ct⟩:=Fi (P:=P) ar q4 aj
  refine⟨_,_,.slice (some ⟨w.heap.size,0,none⟩) l c,?_,⟨_,b6,by simp[Iz]⟩,dc,ct⟩
  rw[dD]
  simp only[Sem.run_bind,Sem.run_pure]
  have:(⟨((Array.range (c*i.size)).map (λj=>zero[j %zero.size]!)).toList⟩:Array Value)=((Array.range (c*i.size)).map (λj=>zero[j %zero.size]!)):=rfl
  rw[this] at bn
  rw[bn];rfl
 have bQ:(_root_.Go.sizeOf e).run P w=.ok i.size w:=by simp[_root_.Go.sizeOf,run_typeInfo hi]
 by_cases h0:c*i.size=0
 · refine key #[] (by rw[if_pos h0,h0];simp[cF]) ?_
   simp only[Instr.makeSlice,Sem.run_bind,b7 hu,Result.andThen_ok,asInt,asIntOf,Sem.run_pure,run_typeInfo hi,r7,B_]
   rw[if_neg xO]
   simp[bQ,h0]
 · refine key v.cells (by rw[if_neg h0];exact B7 ak q3 c) ?_
   simp only[Instr.makeSlice,Sem.run_bind,b7 hu,Result.andThen_ok,asInt,asIntOf,Sem.run_pure,run_typeInfo hi,r7,B_]
   rw[if_neg xO]
   simp[bQ,h0,aW]
theorem Wu{x:aa}{v:Value}(aW:bq μ x v)(ab:(∃b o,x=.ptr b o)\/(∃b o n c,x=.slice b o n c)\/(∃f a b,x=.fn f a b)\/∃t y,x=.iface t y):
  ∀(o:Oper) (op:Operand) (cT:Operand->Value),cT op=v->o.op=.nilCheck op->(execOp cT o).run P w=.ok (.value v) w:=by
 intro o op cT Wv bg
 simp only[execOp,bg,Wv]
 rcases ab with⟨b,o',rfl⟩|⟨b,o',n,c,rfl⟩|⟨f,a,b,rfl⟩|⟨t,y,rfl⟩
 · obtain⟨i,_,rfl⟩:=aW;rfl
 · obtain⟨i,_,ak⟩:=aW
   cases c with
   |exact c=>cases ak;rfl
   |aX h3=>obtain⟨c,rfl,_⟩:=ak;rfl
   |dead=>obtain⟨_,a,c,rfl⟩:=ak;rfl
 · obtain⟨dh,cs,rfl,_,_⟩:=aW;rfl
 · obtain⟨Ww,rfl,_⟩:=aW;rfl
theorem Wx(op:BinOp)(t:TypeId)(k:IntKind)(x y:Int)(gz:op≠ .shl/\op≠ .shr):binOp op t (.int k x) (.int k y)=match op with
  |.add|.sub|.mul=>Op.intArith op k x y
  |.quo|.rem=>Op.intDiv op k x y
  |.and|.or|.xor|.andNot=>Op.intBits op k x y
  |_=>Op.intCmp op x y:=by
 cases op<;>first
  |(exact absurd rfl gz.1)
  |(exact absurd rfl gz.2)
  |simp[binOp]
theorem Wy{x y:Int}(h:arith op k x y=some v)(gz:op≠ .shl/\op≠ .shr)(t:TypeId):
  ∃u,(binOp op t (.int k x) (.int k y)).run P w=.ok u w/\bq μ v u:=by
 rw[Wx op t k x y gz]
 cases op<;>simp only[arith] at h
 case shl=>cases h
 case shr=>cases h
 case quo=>
  split at h
  · cases h
  · rename_i bH;cases h;exact⟨_,by simp only[Op.intDiv,if_neg bH];rfl,rfl⟩
 case rem=>
  split at h
  · cases h
  · rename_i bH;cases h;exact⟨_,by simp only[Op.intDiv,if_neg bH];rfl,rfl⟩
 all_goals (cases h;exact⟨_,rfl,rfl⟩)
theorem NX{k':IntKind}{x y:Int}(h:gv op k x y=some v)(t:TypeId):
  ∃u,(binOp op t (.int k x) (.int k' y)).run P w=.ok u w/\bq μ v u:=by
 unfold gv at h
 split at h
 · cases h
 · rename_i bH
   cases op<;>simp only[] at h<;>first
    |(cases h;done)
    |(cases h;exact⟨_,by simp[binOp,Op.shift,bH],rfl⟩)
theorem NY(b:ByteArray):∀(n i:Nat) (r:List UInt8),b.size-i=n->ByteArray.toList.loop b i r=r.reverse++b.data.toList.drop i
 |0,i,r,h=>by
  rw[ByteArray.toList.loop]
  have ah:b.data.toList.length=b.size:=Array.length_toList
  rw[if_neg (by omega),List.drop_eq_nil_of_le (by omega)];simp
 |n+1,i,r,h=>by
  rw[ByteArray.toList.loop]
  have ah:b.data.toList.length=b.size:=Array.length_toList
  rw[if_pos (by omega),NY b n (i+1) _ (by omega)]
  rw[List.drop_eq_getElem_cons (i:=i) (by omega)]
  have:b.get! i=b.data.toList[i]'(by omega):=by
   have ae:i<b.data.size:=by have:=Array.length_toList (xs:=b.data);omega
   show b.data[i]! =_
   rw[getElem!_pos b.data i ae];simp
  simp[this]
theorem vY(s:ByteArray):s.toList=s.data.toList:=by
 unfold ByteArray.toList
 rw[NY s _ 0 [] rfl];simp
theorem o_:∀a b:List UInt8,gb a b=(a==b)
 |[],[]=>rfl
 |[],_::_=>rfl
 |_::_,[]=>rfl
 |a::x,b::y=>by
  have bM:=o_ x y
  simp only[gb,List.cons_beq_cons]
  cases e:Nat.beq a.toNat b.toNat with
  |true=>
   have:a=b:=UInt8.toNat_inj.1 (Nat.eq_of_beq_eq_true e)
   subst this;simp[bM]
  |false=>
   have:(a==b)=false:=by
    rw[beq_eq_false_iff_ne];intro h;subst h;simp at e
   simp[this]
theorem IJ:∀a b:List UInt8,xB a b=Op.bytesLess a b
 |[],[]=>rfl
 |[],_::_=>rfl
 |_::_,[]=>rfl
 |a::x,b::y=>by
  have bM:=IJ x y
  simp only[xB,Op.bytesLess]
  cases e:Nat.beq a.toNat b.toNat with
  |true=>
   have:a=b:=UInt8.toNat_inj.1 (Nat.eq_of_beq_eq_true e)
   subst this;simp[bM]
  |false=>
   have J:(a==b)=false:=by
    rw[beq_eq_false_iff_ne];intro h;subst h;simp at e
   have ae:decide (a<b)=Nat.blt a.toNat b.toNat:=by
    rw[Bool.eq_iff_iff];simp[UInt8.lt_iff_toNat_lt]
   simp[J,ae]
theorem NZ:∀a b:List UInt8,(Op.bytesLess a b||(a==b))=!Op.bytesLess b a
 |[],[]=>rfl
 |[],_::_=>rfl
 |_::_,[]=>rfl
 |a::x,b::y=>by
  have bM:=NZ x y
  simp only[Op.bytesLess,List.cons_beq_cons]
  by_cases h:a=b
  · subst h
    have:¬(a<a):=UInt8.lt_irrefl a
    simpa[this] using bM
  · have dk:(a==b)=false:=beq_eq_false_iff_ne.2 h
    have Wz:(b==a)=false:=beq_eq_false_iff_ne.2 (λe=>h e.symm)
    simp only[dk,Wz,Bool.false_and,Bool.or_false]
    rw[Bool.eq_iff_iff]
    simp only[decide_eq_true_eq,Bool.not_eq_true',decide_eq_false_iff_not,UInt8.lt_iff_toNat_lt]
    have:a.toNat≠b.toNat:=λe=>h (UInt8.toNat_inj.1 e)
    omega
theorem WA{a b:ByteArray}(h:zR op a.data.toList b.data.toList=some v)(t:TypeId):∃u,(binOp op t (.string a) (.string b)).run P w=.ok u w/\bq μ v u:=by
 have a_:=vY a
 have ag:=vY b
 have J:=o_ a.data.toList b.data.toList
 have ae:=IJ a.data.toList b.data.toList
 have aq:=IJ b.data.toList a.data.toList
 have aI:=NZ a.data.toList b.data.toList
 have r8:a.data.toList.length=a.size:=Array.length_toList
 have IK:b.data.toList.length=b.size:=Array.length_toList
 cases op<;>simp only[zR] at h
 case add=>
  split at h
  · cases h
  · rename_i aA
    cases h
    refine⟨.string (a++b),?_,⟨a++b,rfl,by simp[ByteArray.data_append]⟩⟩
    rw[r8,IK] at aA
    simp only[binOp,Op.stringOp]
    rw[if_neg aA];rfl
 case eql=>cases h;exact⟨_,rfl,congrArg Value.bool (by rw[a_,ag,J])⟩
 case neq=>cases h;exact⟨_,rfl,congrArg Value.bool (by rw[a_,ag,J])⟩
 case lss=>cases h;exact⟨_,rfl,congrArg Value.bool (by rw[a_,ag,ae])⟩
 case leq=>cases h;exact⟨_,rfl,congrArg Value.bool (by rw[a_,ag,aq];exact aI)⟩
 case gtr=>cases h;exact⟨_,rfl,congrArg Value.bool (by rw[a_,ag,aq,aI,Bool.not_not])⟩
 case geq=>cases h;exact⟨_,rfl,congrArg Value.bool (by rw[a_,ag,ae])⟩
 all_goals cases h
def q5(μ:bG):Option aa->Option Value->Prop
 |none,none=>True
 |some a,some v=>bq μ a v
 |_,_=>False
theorem q5.map(g:Operand->aa)(cT:Operand->Value)(aB:∀x,bq μ (g x) (cT x))(o:Option Operand):q5 μ (o.map g) (o.map cT):=by
 cases o with
 |none=>trivial
 |some x=>exact aB x
theorem N0{a:aa}(h:hS a=some n){v:Value}(aW:bq μ a v):∃k,v=.int k (n:Int):=by
 unfold hS at h
 split at h
 · rename_i k m;cases h;exact⟨k,aW⟩
 · cases h
theorem IL{y:Nat}(h:n<=y)(c:BoundsCode):(Instr.sliceBound (.int k (n:Int)) y c).run P w=.ok n w:=by
 simp only[Instr.sliceBound,asIntOf,Sem.run_bind,Sem.run_pure,Result.andThen_ok]
 rw[if_pos ⟨by omega,by omega⟩]
 simp
theorem N1{d:Nat}{o:Option aa}{o':Option Value}(h:mW d o=some n)(aj:q5 μ o o'):(o'=none/\n=d/\o=none)\/∃k a,o=some a/\o'=some (.int k (n:Int)):=by
 cases o with
 |none=>cases o' with
  |none=>simp[mW] at h;exact .inl ⟨rfl,h.symm,rfl⟩
  |some _=>exact aj.elim
 |some a=>cases o' with
  |none=>exact aj.elim
  |some v=>obtain⟨k,e⟩:=N0 (μ:=μ) h aj;exact .inr ⟨k,a,rfl,by rw[e]⟩
theorem r9{len cap l h m:Nat}{lo hi mx:Option aa}{vZ e5 mx':Option Value}(iO:q5 μ lo vZ)(lH:q5 μ hi e5)(mw:q5 μ mx mx')
  (ag:bounds len cap lo hi mx=some (l,h,m))(b:Bool):(Instr.sliceBounds b len cap vZ e5 mx').run P w=.ok (l,h,m) w/\l<=h/\h<=m/\m<=cap/\(mx=none->m=cap):=by
 unfold bounds at ag
 cases em:mW cap mx with
 |none=>rw[em] at ag;cases ag
 |some cR=>
  rw[em] at ag
  simp only at ag
  cases hm:Nat.ble cR cap with
  |false=>rw[hm] at ag;cases ag
  |true=>
   rw[hm] at ag
   simp only at ag
   have IM:=Nat.le_of_ble_eq_true hm
   split at ag
   · cases ag
   · rename_i ar Fj
     cases IN:Nat.ble ar cR with
     |false=>rw[IN] at ag;cases ag
     |true=>
      rw[IN] at ag
      simp only at ag
      have N2:=Nat.le_of_ble_eq_true IN
      cases el:mW 0 lo with
      |none=>rw[el] at ag;cases ag
      |some fw=>
       rw[el] at ag
       simp only at ag
       cases aA:Nat.ble fw ar with
       |false=>rw[aA] at ag;cases ag
       |true=>
        rw[aA] at ag
        simp only[Option.some.injEq,Prod.mk.injEq] at ag
        obtain⟨rfl,rfl,rfl⟩:=ag
        have z2:=Nat.le_of_ble_eq_true aA
        have WB:(e5=none/\mx'=none/\ar=len)\/∃k,e5=some (.int k (ar:Int)):=by
         cases hi with
         |none=>cases e5 with
          |some _=>exact lH.elim
          |none=>cases mx with
           |some _=>simp at Fj
           |none=>cases mx' with
            |some _=>exact mw.elim
            |none=>simp at Fj;exact .inl ⟨rfl,rfl,Fj.symm⟩
         |some a=>cases e5 with
          |none=>exact lH.elim
          |some v=>
           have kG:hS a=some ar:=by cases mx<;>simpa using Fj
           obtain⟨k,e⟩:=N0 (μ:=μ) kG lH
           exact .inr ⟨k,by rw[e]⟩
        refine⟨?_,z2,N2,IM,λe=>by rw[e] at em;simp[mW] at em;exact em.symm⟩
        rcases N1 em mw with⟨aG,aE,_⟩|⟨aO,_,_,aG⟩<;>rcases WB with⟨br,dw,hh⟩|⟨aZ,br⟩<;>rcases N1 el iO with⟨h8,o8,_⟩|⟨bC,_,_,h8⟩<;>
         first
         |(exfalso;simp[aG] at dw;done)
         |(subst_vars;simp[Instr.sliceBounds,IL IM,IL N2,IL z2])
end
end aJ
namespace aJ
open Go
variable {b k n off sz:Nat}{bK:Value}{cs:List aa}{d_:IntKind}{e t:TypeId}{v:aa}
section
variable {P:Program} {μ:bG} {H:I} {w:World}
theorem WC(t:ByteArray)(l h:Nat)(ar:h<=t.size):(t.extract l h).data.toList=List.take (h-l) (lC l t.data.toList):=by
 rw[om]
 simp only[ByteArray.data_extract,Array.toList_extract,List.extract_eq_take_drop]
theorem Ca{m:Nat}(h:m<=n):Nat.ble m n=true:=Nat.ble_eq_true_of_le h
theorem IP{len c:Nat}{lo hi mx:Option aa}{l h m:Nat}(ag:bounds len k lo hi mx=some (l,h,m))(ai:k<=c):bounds len c lo hi mx=some (l,h,if mx.isNone then c else m):=by
 have fin:∀(cR gg:Nat) (E:Option Nat),cR<=gg->
   (match E with
   |none=>none
   |some ar=>match Nat.ble ar cR with
    |false=>none
    |true=>match mW 0 lo with
     |none=>none
     |some l=>match Nat.ble l ar with
      |false=>none
      |true=>some (l,ar,cR))=some (l,h,m)->
   (match E with
   |none=>none
   |some ar=>match Nat.ble ar gg with
    |false=>none
    |true=>match mW 0 lo with
     |none=>none
     |some l=>match Nat.ble l ar with
      |false=>none
      |true=>some (l,ar,gg))=some (l,h,gg):=by
  intro cR gg E hm bO
  cases E with
  |none=>cases bO
  |some ar=>
   simp only at bO⊢
   cases J:Nat.ble ar cR with
   |false=>rw[J] at bO;cases bO
   |true=>
    rw[J] at bO
    rw[Ca (Nat.le_trans (Nat.le_of_ble_eq_true J) hm)]
    simp only at bO⊢
    cases aA:mW 0 lo with
    |none=>rw[aA] at bO;cases bO
    |some fw=>
     rw[aA] at bO
     simp only at bO⊢
     cases aQ:Nat.ble fw ar with
     |false=>rw[aQ] at bO;cases bO
     |true=>rw[aQ] at bO;simp only[Option.some.injEq,Prod.mk.injEq] at bO⊢;exact⟨bO.1,bO.2.1,trivial⟩
 unfold bounds at ag⊢
 cases mx with
 |none=>
  have aG:mW k none=some k:=rfl
  have aE:mW c none=some c:=rfl
  rw[aG] at ag;rw[aE]
  simp only at ag⊢
  rw[Ca (Nat.le_refl k)] at ag;rw[Ca (Nat.le_refl c)]
  simp only[Option.isNone_none,if_true] at ag⊢
  cases hi with
  |none=>exact fin k c (some len) ai ag
  |some a=>exact fin k c (hS a) ai ag
 |some xP=>
  have aG:mW k (some xP)=hS xP:=rfl
  have aE:mW c (some xP)=hS xP:=rfl
  rw[aG] at ag;rw[aE]
  cases em:hS xP with
  |none=>rw[em] at ag;cases ag
  |some cR=>
   rw[em] at ag
   simp only at ag⊢
   cases J:Nat.ble cR k with
   |false=>rw[J] at ag;cases ag
   |true=>
    rw[J] at ag
    rw[Ca (Nat.le_trans (Nat.le_of_ble_eq_true J) ai)]
    simp only[Option.isNone_some,Bool.false_eq_true,if_false] at ag⊢
    have WD:cR=m:=by
     cases hi<;>simp only at ag
     · cases ag
     · split at ag<;>try cases ag
       split at ag<;>try cases ag
       split at ag<;>try cases ag
       split at ag<;>first|cases ag;rfl|cases ag
    subst WD
    cases hi<;>exact ag
theorem WE(ar:bI μ H w){x:aa}(ab:bq μ x bK){lo hi mx:Option aa}{vZ e5 mx':Option Value}(iO:q5 μ lo vZ)(lH:q5 μ hi e5)(mw:q5 μ mx mx')
  (h:kC P H t x lo hi mx=some v):gT P μ H w (Instr.sliceAt t bK vZ e5 mx') v H:=by
 unfold kC at h
 split at h
 ·
  rename_i s hu
  obtain⟨bs,rfl,rfl⟩:=ab
  cases mx with
  |some _=>cases h
  |none=>
   simp only at h
   cases mx' with
   |some _=>exact mw.elim
   |none=>
    split at h
    · rename_i l ag m jQ
      cases h
      have bQ:bs.data.toList.length=bs.size:=Array.length_toList
      rw[bQ] at jQ
      obtain⟨bt,b3,hj,gE,_⟩:=r9 (P:=P) (w:=w) iO lH (μ:=μ) (mx:=none) (mx':=none) trivial jQ false
      refine .same ar (v':=.string (bs.extract l ag)) ?_ ⟨_,rfl,WC _ _ _ (by omega)⟩
      simp[Instr.sliceAt,Instr.slice,b7 hu,bt]
    · cases h
 ·
  rename_i e hu
  cases ab
  split at h
  · rename_i sz r ah jQ
    cases h
    obtain⟨l,ag,m⟩:=r
    obtain⟨bt,b3,hj,gE,_⟩:=r9 (P:=P) (w:=w) iO lH mw jQ true
    have:m=0/\l=0/\ag=0:=by omega
    obtain⟨rfl,rfl,rfl⟩:=this
    exact .same ar (v':=.slice none 0 0) (by simp[Instr.sliceAt,Instr.slice,b7 hu,bt,run_sizeOf ah]) rfl
  · cases h
 ·
  rename_i e b off len cap hu
  obtain⟨i,k2,ak⟩:=ab
  cases ak
  split at h
  · rename_i sz l ag m ah jQ
    cases h
    obtain⟨bt,b3,hj,gE,_⟩:=r9 (P:=P) (w:=w) iO lH mw jQ true
    refine .same ar (v':=.slice (some ⟨i.bo,i.base+(if m=l then off else off+l*sz),none⟩) (ag-l) (m-l)) ?_ ⟨i,k2,rfl⟩
    by_cases e:m=l
    · simp[Instr.sliceAt,Instr.slice,b7 hu,bt,run_sizeOf ah,e]
    · simp[Instr.sliceAt,Instr.slice,b7 hu,bt,run_sizeOf ah,e,add_plain,Nat.add_assoc]
  · cases h
 ·
  rename_i e b off len h3 hu
  obtain⟨i,k2,c,rfl,q1,bQ⟩:=ab
  split at h
  · rename_i sz ah
    split at h
    · rename_i WG
      subst WG
      cases mx with
      |none=>
       cases mx' with
       |some _=>exact mw.elim
       |none=>
        simp only at h
        split at h
        · rename_i l ag m jQ
          have Cb:bounds len c lo hi none=some (l,ag,c):=IP jQ q1
          obtain⟨bt,b3,hj,gE,_⟩:=r9 (P:=P) (w:=w) iO lH (μ:=μ) (mx:=none) (mx':=none) trivial Cb true
          obtain⟨_,aU,bu,e7,_⟩:=r9 (P:=P) (w:=w) iO lH (μ:=μ) (mx:=none) (mx':=none) trivial jQ true
          have dD:(Instr.sliceAt t (.slice (some ⟨i.bo,i.base+off,none⟩) len c) vZ e5 none).run P w=.ok (.slice (some (if c=l then⟨i.bo,i.base+off,none⟩ else⟨i.bo,i.base+off+l*sz,none⟩)) (ag-l) (c-l)) w:=by
           by_cases e:c=l
           · subst e;simp[Instr.sliceAt,Instr.slice,b7 hu,bt,run_sizeOf ah]
           · simp[Instr.sliceAt,Instr.slice,b7 hu,bt,run_sizeOf ah,e,add_plain]
          split at h
          · rename_i N3
            subst N3
            cases h
            refine .same ar dD ⟨i,k2,c,?_,by omega,bQ⟩
            by_cases e:c=0
            · simp[e]
            · simp[e]
          · rename_i N3
            split at h
            · rename_i cf
              cases h
              simp only[Nat.blt_eq] at cf
              refine .same ar dD ⟨i,k2,c-l,?_,by omega,?_⟩
              · rw[if_neg (by omega)];simp[Nat.add_assoc]
              · have:c*sz=l*sz+(c-l)*sz:=by rw[<-Nat.add_mul];congr 1;omega
                omega
            · rename_i cf
              cases h
              have IQ:¬l<len:=by simpa[Nat.blt_eq] using cf
              have h0:ag-l=0:=by omega
              rw[h0] at dD
              exact .same ar dD ⟨i,k2,rfl,_,c-l,rfl⟩
        · cases h
      |some xP=>
       simp only at h
       split at h
       · rename_i l ag m jQ
         cases h
         obtain⟨_,aU,bu,e7,_⟩:=r9 (P:=P) (w:=w) iO lH mw jQ true
         have Cb:bounds len c lo hi (some xP)=some (l,ag,m):=IP jQ q1
         obtain⟨bt,b3,hj,gE,_⟩:=r9 (P:=P) (w:=w) iO lH mw Cb true
         refine .same ar (v':=.slice (some ⟨i.bo,i.base+(if m=l then off else off+l*sz),none⟩) (ag-l) (m-l)) ?_ ⟨i,k2,rfl⟩
         by_cases e:m=l
         · simp[Instr.sliceAt,Instr.slice,b7 hu,bt,run_sizeOf ah,e]
         · simp[Instr.sliceAt,Instr.slice,b7 hu,bt,run_sizeOf ah,e,add_plain,Nat.add_assoc]
       · cases h
    · cases h
  · cases h
 ·
  rename_i e b off len hu
  obtain⟨i,k2,rfl,a,c,rfl⟩:=ab
  split at h
  · rename_i sz r ah jQ
    cases h
    obtain⟨l,ag,m⟩:=r
    obtain⟨_,aU,bu,e7,gL⟩:=r9 (P:=P) (w:=w) iO lH mw jQ true
    have:m=0/\l=0/\ag=0:=by omega
    obtain⟨rfl,rfl,rfl⟩:=this
    have Cb:bounds 0 c lo hi mx=some (0,0,(if mx.isNone then c else 0)):=IP jQ (Nat.zero_le _)
    obtain⟨bt,b3,hj,gE,_⟩:=r9 (P:=P) (w:=w) iO lH mw Cb true
    refine .same ar (v':=.slice (some a) 0 ((if mx.isNone then c else 0)-0)) ?_ ⟨i,k2,rfl,a,_,rfl⟩
    have a_:a.add (0*sz)=a:=by simp[Addr.add]
    simp[Instr.sliceAt,Instr.slice,b7 hu,bt,run_sizeOf ah,Addr.add]
  · cases h
 ·
  rename_i n e b off hu
  obtain⟨i,k2,rfl⟩:=ab
  split at h
  · rename_i sz l ag m ah jQ
    cases h
    obtain⟨bt,b3,hj,gE,_⟩:=r9 (P:=P) (w:=w) iO lH mw jQ false
    refine .same ar (v':=.slice (some ⟨i.bo,i.base+(if m=l then off else off+l*sz),none⟩) (ag-l) (m-l)) ?_ ⟨i,k2,rfl⟩
    by_cases e:m=l
    · simp[Instr.sliceAt,Instr.sureAddr,b7 hu,bt,run_sizeOf ah,e]
    · simp[Instr.sliceAt,Instr.sureAddr,b7 hu,bt,run_sizeOf ah,e,add_plain,Nat.add_assoc]
  · cases h
 ·
  rename_i arr b off hu
  obtain⟨i,k2,rfl⟩:=ab
  split at h
  · rename_i n e my
    split at h
    · rename_i sz l ag m ah jQ
      cases h
      obtain⟨bt,b3,hj,gE,_⟩:=r9 (P:=P) (w:=w) iO lH mw jQ false
      refine .same ar (v':=.slice (some ⟨i.bo,i.base+(if m=l then off else off+l*sz),none⟩) (ag-l) (m-l)) ?_ ⟨i,k2,rfl⟩
      by_cases e:m=l
      · simp[Instr.sliceAt,Instr.slice,asAddr,b7 hu,b7 my,bt,run_sizeOf ah,e]
      · simp[Instr.sliceAt,Instr.slice,asAddr,b7 hu,b7 my,bt,run_sizeOf ah,e,add_plain,Nat.add_assoc]
    · cases h
  · cases h
 · cases h
theorem v3{l:List Value}(aA:cF μ cs l)(h:pS P t cs off=some v):∃u,(part t ⟨l⟩ off).run P w=.ok u w/\bq μ v u:=by
 unfold pS at h
 split at h
 · rename_i n a_ aT
   split at h
   · rename_i r aj
     cases h
     rw[om] at aj
     obtain⟨J,rfl⟩:=xL _ _ _ aj
     refine⟨.agg ⟨(l.drop off).take n⟩,?_,⟨_,rfl,?_⟩⟩
     · simp[part,z0 a_,run_sizeOf aT,List.extract_eq_take_drop]
     · refine cF.BV (by have:=aA.length;simp[this]) λj a aL=>?_
       rw[List.getElem?_take] at aL⊢
       split at aL
       · rename_i m1
         rw[if_pos m1]
         rw[List.getElem?_drop] at aL⊢
         exact aA.get aL
       · cases aL
   · cases h
 · rename_i _ a_
   rw[j0] at h
   obtain⟨u,hu,aj⟩:=aA.get h
   refine⟨u,?_,aj⟩
   simp[part,z0 a_,hu]
 · cases h
theorem WH(ar:bI μ H w){dh:Array Field}{fd:Field}{f:Nat}(hu:P.underlying t=some (.struct dh))(aM:dh[f]? =some fd)(ab:bq μ (.agg cs) bK)
  (h:pS P fd.type cs fd.offset=some v):gT P μ H w (Instr.field t bK f) v H:=by
 obtain⟨l,rfl,aA⟩:=ab
 obtain⟨u,J,ae⟩:=v3 (P:=P) (w:=w) aA h
 exact .same ar (v':=u) (by simp[Instr.field,b7 hu,aM,asAgg,J]) ae
theorem WI(ar:bI μ H w){s:TypeId}{dh:Array Field}{fd:Field}{f:Nat}(hu:P.underlying s=some (.struct dh))(aM:dh[f]? =some fd)(aT:eg P fd.type=some n)(IS:n≠0)
  (ab:bq μ (.ptr b off) bK):gT P μ H w (Instr.fieldAt s bK f) (.ptr b (off+fd.offset)) H:=by
 obtain⟨i,hi,rfl⟩:=ab
 refine .same ar (v':=.pointer (some ⟨i.bo,i.base+(off+fd.offset),none⟩)) ?_ ⟨i,hi,rfl⟩
 simp[Instr.fieldAt,b7 hu,aM,Instr.sureAddr,fieldPlace,run_sizeOf aT,IS,add_plain,Nat.add_assoc]
theorem WJ(ar:bI μ H w){c:dn}(hu:P.underlying t=some (.slice e))(ah:eg P e=some sz)(ab:bq μ (.slice b off n c) bK)(ai:k<n):
  gT P μ H w (Instr.indexAt t bK (.int d_ (k:Int))) (.ptr b (off+k*sz)) H:=by
 obtain⟨i,hi,ak⟩:=ab
 have h9:∃cap,bK=.slice (some ⟨i.bo,i.base+off,none⟩) n cap:=by
  cases c with
  |exact c=>exact⟨c,ak⟩
  |aX h3=>obtain⟨c,h,_⟩:=ak;exact⟨c,h⟩
  |dead=>obtain⟨h0,_⟩:=ak;omega
 obtain⟨cap,rfl⟩:=h9
 refine .same ar (v':=.pointer (some ⟨i.bo,i.base+(off+k*sz),none⟩)) ?_ ⟨i,hi,rfl⟩
 simp only[Instr.indexAt,asIntOf,Sem.run_bind,Sem.run_pure,Result.andThen_ok,b7 hu]
 rw[if_pos ⟨by omega,by omega⟩]
 simp[run_sizeOf ah,add_plain,Nat.add_assoc]
theorem WK(ar:bI μ H w)(hu:P.underlying t=some (.array n e))(ah:eg P e=some sz)(ab:bq μ (.ptr b off) bK)(ai:k<n):
  gT P μ H w (Instr.indexAt t bK (.int d_ (k:Int))) (.ptr b (off+k*sz)) H:=by
 obtain⟨i,hi,rfl⟩:=ab
 refine .same ar (v':=.pointer (some ⟨i.bo,i.base+(off+k*sz),none⟩)) ?_ ⟨i,hi,rfl⟩
 simp only[Instr.indexAt,asIntOf,Sem.run_bind,Sem.run_pure,Result.andThen_ok,b7 hu,Instr.sureAddr]
 rw[if_pos ⟨by omega,by omega⟩]
 simp[run_sizeOf ah,add_plain,Nat.add_assoc]
theorem WL(ar:bI μ H w)(hu:P.underlying t=some (.array n e))(ah:eg P e=some sz)(ab:bq μ (.agg cs) bK)(ai:k<n)
  (h:pS P e cs (k*sz)=some v):gT P μ H w (Instr.index t bK (.int d_ (k:Int))) v H:=by
 obtain⟨l,rfl,aA⟩:=ab
 obtain⟨u,J,ae⟩:=v3 (P:=P) (w:=w) aA h
 refine .same ar (v':=u) ?_ ae
 simp only[Instr.index,asIntOf,Sem.run_bind,Sem.run_pure,Result.andThen_ok,b7 hu]
 rw[if_pos ⟨by omega,by omega⟩]
 simp[run_sizeOf ah,J]
theorem WM(ar:bI μ H w){s:List UInt8}(hu:P.underlying t=some .string)(ab:bq μ (.str s) bK){c:UInt8}(h:nth k s=some c):
  gT P μ H w (Instr.index t bK (.int d_ (k:Int))) (.int .u8 (Int.ofNat c.toNat)) H:=by
 obtain⟨bs,rfl,rfl⟩:=ab
 rw[j0] at h
 refine .same ar (v':=.int .u8 (c.toNat:Int)) ?_ rfl
 have ai:k<bs.data.size:=by
  rcases Nat.lt_or_ge k bs.data.size with ay|ay
  · exact ay
  · rw[List.getElem?_eq_none (by simpa using ay)] at h;cases h
 have aB:bs[k]? =some c:=by
  rw[Array.getElem?_toList] at h
  rw[<-h]
  show(if h:k<bs.size then some bs[k] else none)=_
  have g7:k<bs.size:=ai
  rw[dif_pos g7,Array.getElem?_eq_getElem ai];rfl
 simp only[Instr.index,asIntOf,Sem.run_bind,Sem.run_pure,Result.andThen_ok,b7 hu]
 rw[if_pos (by omega)]
 simp[aB]
end
end aJ
namespace aJ
open Go
variable {argTypes:Array TypeId}{bK:Value}{base:Option Addr}{e sT ty:TypeId}{i:TypeInfo}{n sCap sLen:Nat}{xT:Option TypeId}
section
variable {P:Program} {μ:bG} {H:I} {w:World}
theorem Fk(μ:bG):∀l:List UInt8,cF μ (cC l) (l.map λb=>.int .u8 b.toNat)
 |[]=>rfl
 |b::l=>⟨_,_,rfl,rfl,Fk μ l⟩
theorem WN(t:ByteArray):(t.extract 0 t.size)=t:=by
 obtain⟨d⟩:=t
 simp[ByteArray.ext_iff,ByteArray.data_extract,ByteArray.size]
theorem Fl(ar:bI μ H w){size:Nat}{x:aa}(ab:bq μ x bK){cs:List aa}(h:jr H size x=some (n,cs)):
  (Builtin.lenOf bK).run P w=.ok n w/\(∃us:List Value,(Builtin.firstCells size n bK).run P w=.ok ⟨us⟩ w/\cF μ cs us):=by
 cases x<;>simp only[jr] at h<;>try cases h
 · split at h<;>try cases h
   obtain⟨bs,rfl,rfl⟩:=ab
   refine⟨by rw[show bs.data.toList.length=bs.size from Array.length_toList];rfl,_,?_,Fk μ _⟩
   have bQ:bs.data.toList.length=bs.size:=Array.length_toList
   simp only[Builtin.firstCells,Sem.run_pure,bQ,WN]
   congr 1
   apply Array.ext'
   simp
 · cases ab
   exact⟨rfl,[],rfl,rfl⟩
 · rename_i b off len cap
   obtain⟨i,hi,ak⟩:=ab
   cases cap with
   |dead=>
    obtain⟨rfl,a,c,rfl⟩:=ak
    simp at h
    obtain⟨rfl,rfl⟩:=h
    exact⟨rfl,[],by simp[Builtin.firstCells,_root_.Go.loadCells,loadCellsFrom],rfl⟩
   |exact c=>
    cases ak
    simp only at h
    split at h
    · rename_i cq aA
      cases h
      obtain⟨us,J,ae⟩:=vV (P:=P) ar hi aA
      exact⟨rfl,us,by simp only[Builtin.firstCells];exact J,ae⟩
    · cases h
   |aX h3=>
    obtain⟨c,rfl,_⟩:=ak
    simp only at h
    split at h
    · rename_i cq aA
      cases h
      obtain⟨us,J,ae⟩:=vV (P:=P) ar hi aA
      exact⟨rfl,us,by simp only[Builtin.firstCells];exact J,ae⟩
    · cases h
theorem WO{z:Value}(n:Nat){q2:List aa}(bm:cF μ q2 z.cells.toList):cF μ (iW n q2) (Builtin.zeroCells z.cells n).toList:=by
 have:=B7 bm rfl n
 have aA:=bm.length
 have aq:z.cells.toList.length=z.cells.size:=by simp
 rw[aA,aq] at this
 exact this
theorem WQ(need old:Nat)(h:old<need):Builtin.nextslicecap need old<=4*need+2048:=by
 unfold Builtin.nextslicecap
 split
 · omega
 · split
   · omega
   · have aB:∀rounds c,c<=2*need+768->(∀k,k<=rounds->True)->Builtin.growBy need rounds c<=4*need+2048:=by
       intro rounds
       induction rounds with
       |zero=>intro c ak _;simp only[Builtin.growBy];omega
       |succ r bM=>
        intro c ak _
        simp only[Builtin.growBy]
        split
        · omega
        · rename_i cf
          exact bM _ (by omega) (λ_ _=>trivial)
     exact aB 4 old (by omega) (λ_ _=>trivial)
theorem bI.WR{w':World}(h:bI μ H w){b:Nat}{o o':b5}{i:gx}(ag:H.get b=some o)(hx:o.q0=false)(hi:μ b=some i)
  (ah:w'.heap.size=w.heap.size)(bg:∀r,r≠i.bo->w'.heap[r]? =w.heap[r]?)(BZ:w'.os=w.os)(IE:w'.output=w.output)(IF:w'.tape=w.tape)(base sz:Nat)
  (aj:qZ (h6 μ H.n ⟨i.bo,base,sz⟩) o' ⟨i.bo,base,sz⟩ w')(hdr:w.drawn<=w'.drawn:=by first|exact Nat.le_refl _|assumption):
  bI (h6 μ H.n ⟨i.bo,base,sz⟩) ((H.set b none).push o') w'/\cD μ H w (h6 μ H.n ⟨i.bo,base,sz⟩) ((H.set b none).push o') w':=by
 have hle:=h.r4 ⟨i.bo,base,sz⟩
 have iC:b<H.n:=(h.lt b i hi).1
 have zY:H.get b≠none:=by rw[ag];simp
 have eG:∀c,((H.set b none).push o').get c=if c=H.n then some o' else if c=b then none else H.get c:=λc=>by
  rw[I.mZ,I.fk];rfl
 have r5:∀c,c<H.n->((H.set b none).push o').get c≠none->c≠b/\H.get c≠none:=λc ak aT=>by
  rw[eG,if_neg (by omega)] at aT
  by_cases e:c=b
  · rw[if_pos e] at aT;exact absurd rfl aT
  · rw[if_neg e] at aT;exact⟨e,aT⟩
 constructor
 · refine⟨λc l0 j ak aL=>?_,λc d j k ak aH aL ai e=>?_,λc j aL=>?_,λc ak=>?_⟩
   · rw[eG] at ak
     by_cases e:c=H.n
     · rw[if_pos e] at ak;subst e;cases ak;rw[h7] at aL;cases aL;exact aj
     · rw[if_neg e] at ak;rw[js _ _ e] at aL
       by_cases aE:c=b
       · rw[if_pos aE] at ak;cases ak
       · rw[if_neg aE] at ak
         exact(h.rel c l0 j ak aL).mono hle (bg _ λb0=>aE (h.inj c b j i (by rw[ak];simp) ⟨o,ag,hx⟩ aL hi b0))
   · have side:∀c j,c≠H.n->((H.set b none).push o').get c≠none->h6 μ H.n ⟨i.bo,base,sz⟩ c=some j->j.bo≠i.bo:=λc j xQ ak aL e=>by
       rw[js _ _ xQ] at aL
       obtain⟨aV,aU⟩:=r5 c (h.lt c j aL).1 ak
       exact aV (h.inj c b j i aU ⟨o,ag,hx⟩ aL hi e)
     by_cases aG:c=H.n
     · by_cases aE:d=H.n
       · rw[aG,aE]
       · subst aG;rw[h7] at aL;cases aL
         exact absurd e.symm (side d k aE (by obtain⟨x,ab,_⟩:=aH;rw[ab];simp) ai)
     · by_cases aE:d=H.n
       · subst aE;rw[h7] at ai;cases ai
         exact absurd e (side c j aG ak aL)
       · rw[js _ _ aG] at aL;rw[js _ _ aE] at ai
         exact h.inj c d j k (r5 c (h.lt c j aL).1 ak).2 (by
          obtain⟨x,ab,B0⟩:=aH
          rw[eG,if_neg aE] at ab
          split at ab
          · cases ab
          · exact⟨x,ab,B0⟩) aL ai e
   · by_cases e:c=H.n
     · subst e;rw[h7] at aL;cases aL
       have:=(h.lt b i hi).2
       exact⟨by simp,by rw[ah];exact this⟩
     · rw[js _ _ e] at aL
       have:=h.lt c j aL
       exact⟨by simp;omega,by rw[ah];exact this.2⟩
   · simp at ak
     rw[eG,if_neg (by omega),if_neg (by omega)];exact h.bound c (by omega)
 · refine⟨hle,by omega,by simp,λc ak aT=>(r5 c ak aT).2,λc ak hm=>(by rw[eG,if_neg (by omega),if_neg];intro e;subst e;rw[hi] at hm;cases hm),λr _ aT=>bg r λe=>aT b i zY hi e.symm,λc j J ae=>?_,λc l0 j ak vS aL=>?_,BZ,IE,IF,hdr⟩
   · by_cases e:c=H.n
     · subst e;rw[h7] at ae;cases ae
       exact⟨Nat.le_refl _,.inr ⟨b,o,i,ag,hx,hi,rfl⟩⟩
     · rw[js _ _ e,J] at ae;cases ae
   · have dk:c≠b:=by intro e;subst e;rw[ag] at ak;cases ak;rw[hx] at vS;cases vS
     have xQ:=(h.lt c j aL).1
     refine⟨by rw[eG,if_neg (by omega),if_neg dk];exact ak,bg _ λe=>dk (h.inj c b j i (by rw[ak];simp) ⟨o,ag,hx⟩ aL hi e)⟩
theorem bI.kill(h:bI μ H w){b:Nat}{o:b5}{i:gx}(ag:H.get b=some o)(hx:o.q0=false)(hi:μ b=some i):
  bI μ (H.set b none) w/\cD μ H w μ (H.set b none) w:=by
 have r5:∀c,(H.set b none).get c≠none->H.get c≠none:=λc aT=>by
  rw[I.fk] at aT
  by_cases e:c=b
  · rw[if_pos e] at aT;exact absurd rfl aT
  · rw[if_neg e] at aT;exact aT
 constructor
 · refine⟨λc l0 j ak aL=>?_,λc d j k ak aH=>h.inj c d j k (r5 c ak) (by
     obtain⟨x,ab,B0⟩:=aH
     rw[I.fk] at ab
     split at ab
     · cases ab
     · exact⟨x,ab,B0⟩),h.lt,λc ak=>?_⟩
   · rw[I.fk] at ak
     by_cases e:c=b
     · rw[if_pos e] at ak;cases ak
     · rw[if_neg e] at ak;exact h.rel c l0 j ak aL
   · rw[I.fk]
     split
     · rfl
     · exact h.bound c ak
 · refine⟨fE.refl μ,Nat.le_refl _,Nat.le_refl _,λc _ ak=>r5 c ak,λc _ hm=>(by rw[I.fk,if_neg];intro e;subst e;rw[hi] at hm;cases hm),λ_ _ _=>rfl,λc j J ae=>(by rw[J] at ae;cases ae),λc l0 j ak vS aL=>⟨?_,rfl⟩,rfl,rfl,rfl,Nat.le_refl _⟩
   have dk:c≠b:=by intro e;subst e;rw[ag] at ak;cases ak;rw[hx] at vS;cases vS
   rw[I.fk,if_neg dk];exact ak
theorem bI.drew(h:bI μ H w):bI μ H w.drew:=h.of_heap rfl
theorem cD.drew:cD μ H w μ H w.drew:=cD.of_heap rfl rfl rfl rfl
theorem WS{need bytes:Nat}(h:mX need bytes=true):(4*need+2048)*bytes<=281474976710656/\need<=281474976710656:=by
 simp only[mX,Nat.ble_eq] at h
 have J:(4*need+2048)*bytes<=(4*need+2048)*(bytes+1):=Nat.mul_le_mul_left _ (by omega)
 have ae:(4*need+2048)*1<=(4*need+2048)*(bytes+1):=Nat.mul_le_mul_left _ (by omega)
 refine⟨Nat.le_trans J h,?_⟩
 have aq:=Nat.le_trans ae h
 rw[Nat.mul_one] at aq
 generalize 281474976710656=q at aq⊢
 omega
theorem WT{z:Value}(h0:argTypes[0]? =some sT)(J:argTypes[1]? =xT)(hu:P.underlying sT=some (.slice e))(ab:uk P xT=true)(hi:P.info? e=some i)
  (bm:∀w:World,(zeroValue e).run P w=.ok z w)(aA:(Builtin.lenOf bK).run P w=.ok n w){us old:List Value}(hold:(Builtin.firstCells i.size sLen (.slice base sLen sCap)).run P w.drew=.ok ⟨old⟩ w.drew)
  (i_:(Builtin.firstCells i.size n bK).run P w.drew=.ok ⟨us⟩ w.drew)(cf:sCap<sLen+n)(tc:mX (sLen+n) i.bytes=true):
  ∃pa,sLen+n<=pa/\(Builtin.append_ argTypes ty #[.slice base sLen sCap,bK]).run P w=
   .ok (.slice (some ⟨w.heap.size,0,none⟩) (sLen+n) pa) (w.drew.alloc (.cells (⟨old⟩++⟨us⟩++Builtin.zeroCells z.cells (pa-(sLen+n))) e)):=by
 obtain⟨cR,gg⟩:=WS tc
 have WU:=WQ (sLen+n) sCap cf
 have z1:¬(Builtin.nextslicecap (sLen+n) sCap*i.bytes>2^48):=by
  have J:Builtin.nextslicecap (sLen+n) sCap*i.bytes<=(4*(sLen+n)+2048)*i.bytes:=Nat.mul_le_mul_right _ WU
  have ae:(2:Nat)^48=281474976710656:=by rfl
  rw[ae]
  exact Nat.not_lt.2 (Nat.le_trans J cR)
 have WV:IntKind.max .i64=9223372036854775807:=rfl
 have v5:¬(((sLen+n:Nat):Int)>IntKind.i64.max):=by rw[WV];omega
 have N4:¬(sLen+n<=sCap):=by omega
 have bQ:∀w:World,(_root_.Go.sizeOf e).run P w=.ok i.size w:=λw=>by simp[_root_.Go.sizeOf,run_typeInfo hi]
 have Fm:(Question.appendCap (sLen+n) sCap e).forced=false:=rfl
 have Fo:∀w:World,(typeInfo e).run P w=.ok i w:=λw=>run_typeInfo hi
 have Fp:∀(c:Nat) (cs:Array Value),(_root_.Go.newRow e cs).run P w.drew=.ok ⟨w.heap.size,0,none⟩ (w.drew.alloc (.cells cs e)):=λc cs=>rfl
 refine⟨(Question.appendCap (sLen+n) sCap e).cut (w.tape w.drawn (Question.appendCap (sLen+n) sCap e)),by simp[Question.cut],?_⟩
 cases xT with
 |none=>
  simp only[Builtin.append_,h0,J,List.getElem?_toArray,List.getElem?_cons_zero,List.getElem?_cons_succ,Sem.run_bind,b7 hu,Result.andThen_ok,bQ,Sem.run_pure,aA,Bool.false_eq_true,if_false,if_neg N4,Fo,v5,false_and,if_neg z1,
   run_choose,Fm,run_askRoom,World.drew_eq,hold,i_,Bool.not_false,if_true,bm,Fp 0]
 |some IT=>
  simp only[uk] at ab
  cases aH:P.underlying IT with
  |none=>rw[aH] at ab;cases ab
  |some d=>
   rw[aH] at ab
   cases d<;>first
   |(cases ab;done)
   |simp only[Builtin.append_,h0,J,List.getElem?_toArray,List.getElem?_cons_zero,List.getElem?_cons_succ,Sem.run_bind,b7 hu,b7 aH,Result.andThen_ok,bQ,Sem.run_pure,aA,Bool.false_eq_true,if_false,if_neg N4,Fo,v5,false_and,if_neg z1,
    run_choose,Fm,run_askRoom,World.drew_eq,hold,i_,Bool.not_false,if_true,bm,Fp 0]
theorem Cc(h0:argTypes[0]? =some sT)(J:argTypes[1]? =xT)(hu:P.underlying sT=some (.slice e))(ab:uk P xT=true)(hi:P.info? e=some i)
  (aA:(Builtin.lenOf bK).run P w=.ok n w){us:List Value}
  (i_:(Builtin.firstCells i.size n bK).run P w=.ok ⟨us⟩ w)(hle:sLen+n<=sCap):
  (Builtin.append_ argTypes ty #[.slice base sLen sCap,bK]).run P w=match base with
   |some a=>((_root_.Go.storeCells (a.add (sLen*i.size)) us).run P w).andThen λ_ w'=>.ok (.slice base (sLen+n) sCap) w'
   |none=>.ok (.slice base (sLen+n) sCap) w:=by
 have bQ:∀w:World,(_root_.Go.sizeOf e).run P w=.ok i.size w:=λw=>by simp[_root_.Go.sizeOf,run_typeInfo hi]
 cases xT with
 |none=>
  cases base<;>simp only[Builtin.append_,h0,J,List.getElem?_toArray,List.getElem?_cons_zero,List.getElem?_cons_succ,Sem.run_bind,b7 hu,Result.andThen_ok,bQ,Sem.run_pure,aA,Bool.false_eq_true,if_false,if_pos hle,Bool.not_false,if_true,i_]
 |some IT=>
  simp only[uk] at ab
  cases aH:P.underlying IT with
  |none=>rw[aH] at ab;cases ab
  |some d=>
   rw[aH] at ab
   cases d<;>first
   |(cases ab;done)
   |cases base<;>simp only[Builtin.append_,h0,J,List.getElem?_toArray,List.getElem?_cons_zero,List.getElem?_cons_succ,Sem.run_bind,b7 hu,b7 aH,Result.andThen_ok,bQ,Sem.run_pure,aA,Bool.false_eq_true,if_false,if_pos hle,Bool.not_false,if_true,i_]
theorem WW{l:List aa}(h:l.all aa.dJ=true):∀a∈l,a.dJ=true:=λa a_=>List.all_eq_true.1 h a a_
theorem IU(ar:bI μ H w){z:aa}(h0:argTypes[0]? =some sT)(J:argTypes[1]? =xT)(hu:P.underlying sT=some (.slice e))(ab:uk P xT=true)
  (hi:P.info? e=some i)(bm:gu P e=some z){x:aa}(N5:bq μ x bK){cs:List aa}(hF:jr H i.size x=some (n,cs)){old:List aa}
  (hold:∃us:List Value,(Builtin.firstCells i.size sLen (.slice base sLen sCap)).run P w.drew=.ok ⟨us⟩ w.drew/\cF μ old us)(td:old.length=sLen*i.size)(kj:cs.length=n*i.size)(cf:sCap<sLen+n){v:aa}{H1 a7:I}(fR:bI μ H1 w)(WX:cD μ H w μ H1 w)
  {fz:Nat}(aB:r1 H1 e i.bytes i.size (sLen+n) z (old++cs) fz=some (v,a7)):gT P μ H w (Builtin.append_ argTypes ty #[.slice base sLen sCap,bK]) v a7:=by
 obtain⟨g8,N6,rfl,ag⟩:=o9 (P:=P) (w:=w) bm
 have WY:∀w:World,(zeroValue e).run P w=.ok g8 w:=λw=>by
  unfold gu at bm
  simp only[hi] at bm
  cases N7:i.zero with
  |none=>rw[N7] at bm;cases bm
  |some z3=>
   have aV:∀w:World,(zeroValue e).run P w=.ok z3 w:=λw=>by simp[zeroValue,run_typeInfo hi,N7]
   rw[aV] at N6
   cases N6
   exact aV w
 obtain⟨aA,us,pb,oo⟩:=Fl (P:=P) ar N5 hF
 obtain⟨_,te,WZ,N8⟩:=Fl (P:=P) ar.drew N5 hF
 obtain⟨os,BZ,N9⟩:=hold
 unfold r1 at aB
 split at aB
 · rename_i ak
   simp only[Bool.and_eq_true] at ak
   obtain⟨⟨tc,q3⟩,gZ⟩:=ak
   cases aB
   obtain⟨pa,z4,Cd⟩:=WT (P:=P) (w:=w) (ty:=ty) h0 J hu ab hi WY aA BZ WZ cf tc
   have pc:=(mu μ g8).cells ag
   have W0:=Nat.eq_of_beq_eq_true q3
   have W1:g8.cells.size=i.size:=by have:=pc.length;rw[W0] at this;simpa using this.symm
   have W2:cF μ (old++cs) (os++te):=N9.append N8
   have W3:os.length=sLen*i.size:=by rw[<-N9.length,td]
   have Ce:te.length=n*i.size:=by rw[<-N8.length,kj]
   have hmul:(sLen+n)*i.size=sLen*i.size+n*i.size:=Nat.add_mul _ _ _
   have N_:pa*i.size=(sLen+n)*i.size+(pa-(sLen+n))*i.size:=by rw[<-Nat.add_mul,Nat.add_sub_of_le z4]
   have W4:0+pa*i.size=((⟨os⟩:Array Value)++⟨te⟩++Builtin.zeroCells g8.cells (pa-(sLen+n))).size:=by
    have aV:(⟨os⟩:Array Value).size=sLen*i.size:=W3
    have aU:(⟨te⟩:Array Value).size=n*i.size:=Ce
    have bu:(Builtin.zeroCells g8.cells (pa-(sLen+n))).size=(pa-(sLen+n))*i.size:=by
     unfold Builtin.zeroCells;rw[Array.size_map,Array.size_range,W1]
    rw[Array.size_append,Array.size_append,aV,aU,bu,N_,hmul]
    omega
   have hle:=fR.drew.r4 ⟨w.heap.size,0,pa*i.size⟩
   obtain⟨bt,b3⟩:=fR.drew.alloc (.cells (old++cs) e .aX 0 fz) (.cells (⟨os⟩++⟨te⟩++Builtin.zeroCells g8.cells (pa-(sLen+n))) e) (pa*i.size)
    ⟨_,0,0,World.heap_alloc_new _ _,λj a aL=>by
      obtain⟨u,vU,aj⟩:=W2.get aL
      refine⟨u,?_,aj.mono hle⟩
      have xR:j<(os++te).length:=by
       rcases Nat.lt_or_ge j (os++te).length with h|h
       · exact h
       · rw[List.getElem?_eq_none h] at vU;cases vU
      rw[Nat.zero_add,Array.getElem?_append_left (by simpa using xR)]
      simpa using vU,W4,by
      refine⟨?_,λj _ _ h=>by omega⟩
      simp[td,kj];omega⟩
   refine⟨_,_,_,Cd,⟨_,h7 _ _ _,pa,rfl,z4,by simp⟩,bt,?_⟩
   exact WX.trans ar fR (cD.drew.trans fR fR.drew b3)
 · cases aB
end
end aJ
