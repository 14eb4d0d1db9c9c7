/-
  THE ABSTRACT EVALUATOR (the evaluator's definitions; values and memory): a deterministic semantics of loaded code, and the proof that its runs are runs of the program in the model, whatever the tape draws. No condition.
-/
import GoSem.Step
import Derived.Calls
import Derived.Laws.Sem
import Derived.Laws.World
set_option linter.unusedVariables false
set_option linter.unusedSimpArgs false
namespace bg
open Go
inductive ct where
 |exact(n:Nat)
 |aL (hK:Nat)
 |dead
inductive ad where
 |bad
 |bool (b:Bool)
 |int (k:IntKind) (n:Int)
 |str (s:List UInt8)
 |aX
 |ptr (b off:Nat)
 |aP
 |slice (b off len:Nat) (cap:ct)
 |jw
 |map (r:Nat)
 |gW
 |fn (f:Nat) (first a_:List ad)
 |eb (l:Nat)
 |fU
 |iface (t:Nat) (v:ad)
 |agg (cs:List ad)
 |aR (vs:List ad)
 deriving Inhabited
def ad.de:ad->Bool
 |.bad|.agg _|.aR _=>false
 |_=>true
def ad.cells:ad->List ad
 |.agg cs=>cs
 |v=>[v]
inductive jG where
 |here|l (p:jG)|r (p:jG)
inductive ba where
 |leaf
 |node (l:ba) (v:ad) (r:ba)
def zW:Nat->Nat->jG
 |0,_=>.here
 |f+1,n=>match n with
  |0=>.here
  |m+1=>match Nat.mod m 2 with
   |0=>.l (zW f (Nat.div m 2))
   |_=>.r (zW f (Nat.div m 2))
def h_(n:Nat):jG:=zW n n
def ba.get:jG->ba->ad
 |.here,.node _ v _=>v
 |.l p,.node l _ _=>get p l
 |.r p,.node _ _ r=>get p r
 |_,.leaf=>.bad
def ba.Gf(l:ba)(v:ad)(r:ba):ba:=match l with
 |.leaf=>.node .leaf v r
 |.node a b c=>.node (.node a b c) v r
def ba.Gg(l:ba)(v:ad)(r:ba):ba:=match r with
 |.leaf=>.node l v .leaf
 |.node a b c=>.node l v (.node a b c)
def ba.set:jG->ad->ba->ba
 |.here,x,.node l _ r=>.node l x r
 |.here,x,.leaf=>.node .leaf x .leaf
 |.l p,x,.node l v r=>ba.Gf (set p x l) v r
 |.l p,x,.leaf=>ba.Gf (set p x .leaf) .bad .leaf
 |.r p,x,.node l v r=>ba.Gg l v (set p x r)
 |.r p,x,.leaf=>ba.Gg .leaf .bad (set p x .leaf)
inductive hb where
 |own|aL|ro|fz
 deriving DecidableEq
structure eH where
 key:ad
 val:ad
 born:Nat
inductive cb where
 |call (f:Nat) (args:List ad)
 |collected (r:Nat)
inductive dQ where
 |cells (cs:List ad) (el:Nat) (k:hb) (lo hi:Nat)
 |map (es:List eH) (clock:Nat)
 |tJ (s:List UInt8) (pos:Nat)
 |mapIter (m:Option Nat) (since:Nat) (seen:List Nat) (last:Nat)
 |loop (st:LoopState) (gX:Option Code) (fn:Nat) (oG:ba) (params:List Nat) (assign body:Code) (defers:Nat)
 |defrd (calls:Option (List cb))
 |raw (o:Obj)
inductive fZ where
 |leaf
 |node (l:fZ) (v:Option dQ) (r:fZ)
def fZ.get:fZ->Nat->Option dQ
 |.leaf,_=>none
 |.node l v r,n=>match n with
  |0=>v
  |m+1=>match Nat.mod m 2 with
   |0=>get l (Nat.div m 2)
   |_=>get r (Nat.div m 2)
def fZ.m9:Nat->fZ->Nat->Option dQ->fZ
 |0,t,_,_=>t
 |f+1,.leaf,n,x=>match n with
  |0=>.node .leaf x .leaf
  |m+1=>match Nat.mod m 2 with
   |0=>.node (m9 f .leaf (Nat.div m 2) x) none .leaf
   |_=>.node .leaf none (m9 f .leaf (Nat.div m 2) x)
 |f+1,.node l v r,n,x=>match n with
  |0=>.node l x r
  |m+1=>match Nat.mod m 2 with
   |0=>.node (m9 f l (Nat.div m 2) x) v r
   |_=>.node l v (m9 f r (Nat.div m 2) x)
structure ab where
 t:fZ
 n:Nat
def ab.get(h:ab)(b:Nat):Option dQ:=h.t.get b
def ab.set(h:ab)(b:Nat)(o:Option dQ):ab:=⟨fZ.m9 (b+1) h.t b o,h.n⟩
def ab.push(h:ab)(o:dQ):ab:=⟨fZ.m9 (h.n+1) h.t h.n (some o),h.n+1⟩
inductive ia where
 |val (v:ad) (h:ab)
 |cw (v:ad) (h:ab)
 |call (f:Nat) (args:List ad) (h:ab)
 |eb (l:Nat) (args:List ad) (h:ab)
 |m_ (d:cb)
 |vy
 |fail (kH:String)
inductive bE where
 |ret (v:ad) (h:ab)
 |cw (v:ad) (h:ab)
 |fail (kH:String)
mutual
def qh:Value->ad
 |.bool b=>.bool b
 |.int k n=>.int k n
 |.string s=>.str s.data.toList
 |.pointer none=>.aX
 |.slice none 0 0=>.aP
 |.map none=>.jw
 |.nilFunc=>.gW
 |.nilIface=>.fU
 |.agg ⟨cs⟩=>.agg (C4 cs)
 |.tuple ⟨vs⟩=>.aR (C4 vs)
 |_=>.bad
def C4:List Value->List ad
 |[]=>[]
 |v::vs=>qh v::C4 vs
end
def nth{α:Type}:Nat->List α->Option α
 |_,[]=>none
 |0,a::_=>some a
 |n+1,_::l=>nth n l
def takeN:Nat->List ad->Option (List ad)
 |0,_=>some []
 |_+1,[]=>none
 |n+1,a::l=>match takeN n l with
  |some r=>some (a::r)
  |none=>none
def j4{α:Type}:Nat->List α->List α
 |0,l=>l
 |_+1,[]=>[]
 |n+1,_::l=>j4 n l
def c1:List UInt8->List UInt8->Bool
 |[],[]=>true
 |a::x,b::y=>match Nat.beq a.toNat b.toNat with
  |true=>c1 x y
  |false=>false
 |_,_=>false
def eA:List UInt8->List UInt8->Bool
 |_,[]=>false
 |[],_::_=>true
 |a::x,b::y=>match Nat.beq a.toNat b.toNat with
  |true=>eA x y
  |false=>Nat.blt a.toNat b.toNat
def gY(x y:Int):Bool:=decide (x<y)
def j5(x y:Int):Bool:=decide (x<=y)
def fc(x y:Int):Bool:=x==y
def loadCells(h:ab)(b off n:Nat):Option (List ad):=
 match h.get b with
 |some (.cells cs _ _ _ _)=>takeN n (j4 off cs)
 |_=>none
def aq(h:ab)(b off:Nat):Option ad:=
 match h.get b with
 |some (.cells cs _ _ _ _)=>nth off cs
 |_=>none
def mF(k:hb)(lo hi off n:Nat):Bool:=
 match k with
 |.ro|.fz=>false
 |_=>Nat.ble hi lo||Nat.ble (off+n) lo||Nat.ble hi off
def gD:Nat->List ad->List ad->Option (List ad)
 |0,[],cs=>some cs
 |0,_::_,[]=>none
 |0,v::vs,_::cs=>match v.de with
  |true=>match gD 0 vs cs with
   |some r=>some (v::r)
   |none=>none
  |false=>none
 |_+1,[],cs=>some cs
 |_+1,_::_,[]=>none
 |n+1,vs,c::cs=>match gD n vs cs with
  |some r=>some (c::r)
  |none=>none
def storeCells(h:ab)(b off:Nat)(vs:List ad):Option ab:=
 match h.get b with
 |some (.cells cs el k lo hi)=>
  match mF k lo hi off vs.length with
  |true=>match gD off vs cs with
   |some b5=>some (h.set b (some (.cells b5 el k lo hi)))
   |none=>none
  |false=>none
 |_=>none
def newRow(h:ab)(el:Nat)(cs:List ad):Option (Nat×ab):=
 match cs.all ad.de with
 |true=>some (h.n,h.push (.cells cs el .own 0 0))
 |false=>none
def re(P:Program)(t:TypeId):Option Bool:=
 match P.underlying t with
 |some (.struct _)=>some true
 |some (.array _ _)=>some true
 |some _=>some false
 |none=>none
def ef(P:Program)(t:TypeId):Option Nat:=match P.info? t with
 |some i=>some i.size
 |none=>none
def eT(P:Program)(t:TypeId):Option ad:=match P.info? t with
 |some i=>match i.zero with
  |some z=>match qh z with
   |.bad=>none
   |a=>some a
  |none=>none
 |none=>none
def kp(P:Program)(t:TypeId)(cs:List ad)(off:Nat):Option ad:=
 match re P t,ef P t with
 |some true,some n=>match takeN n (j4 off cs) with
  |some r=>some (.agg r)
  |none=>none
 |some false,_=>nth off cs
 |_,_=>none
def lq(place:Nat->Option (Nat×Nat))(cells:List ad):List (Nat×ad)->Option (List ad)
 |[]=>some cells
 |(i,v)::rest=>
  match v with
  |.bad=>none
  |v=>match place i with
   |none=>none
   |some (off,size)=>
    match Nat.beq v.cells.length size&&Nat.ble (off+size) cells.length with
    |true=>match gD off v.cells cells with
     |some TL=>lq place TL rest
     |none=>none
    |false=>none
def gm{α:Type}:Nat->List α->List α
 |0,_=>[]
 |n+1,l=>l++gm n l
def eqFields(P:Program)(E:TypeId->ad->ad->Option Bool)(xs ys:List ad):List Field->Option Bool
 |[]=>some true
 |f::b6=>match decide (f.name= "_") with
  |true=>eqFields P E xs ys b6
  |false=>match kp P f.type xs f.offset,kp P f.type ys f.offset with
   |some a,some b=>match E f.type a b with
    |some true=>eqFields P E xs ys b6
    |r=>r
   |_,_=>none
def zX(P:Program)(E:TypeId->ad->ad->Option Bool)(e:TypeId)(sz:Nat)(xs ys:List ad):Nat->Nat->Option Bool
 |0,_=>some true
 |n+1,i=>match kp P e xs (i*sz),kp P e ys (i*sz) with
  |some a,some b=>match E e a b with
   |some true=>zX P E e sz xs ys n (i+1)
   |r=>r
  |_,_=>none
def Gh(h:ab)(a i b j:Nat):Option Bool:=
 match Nat.beq a b with
 |true=>some (Nat.beq i j)
 |false=>match h.get a,h.get b with
  |some (.cells _ _ .own 0 0),some (.cells _ _ .own 0 0)=>some false
  |_,_=>none
def gZ(P:Program)(h:ab):Nat->TypeId->ad->ad->Option Bool
 |0,_,_,_=>none
 |d+1,t,x,y=>
  match P.underlying t with
  |none=>none
  |some .bool=>match x,y with
   |.bool a,.bool b=>some (a==b)
   |_,_=>none
  |some (.int _)=>match x,y with
   |.int j a,.int k b=>if j=k then some (fc a b) else none
   |_,_=>none
  |some .string=>match x,y with
   |.str a,.str b=>some (c1 a b)
   |_,_=>none
  |some (.pointer e)=>match x,y with
   |.aX,.aX=>some true
   |.aX,.ptr _ _=>some false
   |.ptr _ _,.aX=>some false
   |.ptr a i,.ptr b j=>match ef P e with
    |some (_+1)=>Gh h a i b j
    |_=>none
   |_,_=>none
  |some (.slice _)=>match x,y with
   |.aP,.aP=>some true
   |.aP,.slice _ _ _ _=>some false
   |.slice _ _ _ _,.aP=>some false
   |_,_=>none
  |some (.map _ _)=>match x,y with
   |.jw,.jw=>some true
   |.jw,.map _=>some false
   |.map _,.jw=>some false
   |_,_=>none
  |some (.func _ _ _)=>match x,y with
   |.gW,.gW=>some true
   |.gW,.fn _ _ _=>some false
   |.fn _ _ _,.gW=>some false
   |_,_=>none
  |some (.interface _)=>match x,y with
   |.fU,.fU=>some true
   |.fU,.iface _ _=>some false
   |.iface _ _,.fU=>some false
   |.iface a v,.iface b w=>match Nat.beq a b with
    |false=>some false
    |true=>match P.info? a with
     |some i=>match i.comparable with
      |true=>gZ P h d a v w
      |false=>none
     |none=>none
   |_,_=>none
  |some (.struct b6)=>match x,y with
   |.agg xs,.agg ys=>match P.stoodInHeld t with
    |true=>none
    |false=>eqFields P (gZ P h d) xs ys b6.toList
   |_,_=>none
  |some (.array n e)=>match x,y with
   |.agg xs,.agg ys=>match ef P e with
    |some sz=>zX P (gZ P h d) e sz xs ys n 0
    |none=>none
   |_,_=>none
  |some _=>none
def tK(P:Program)(t:TypeId)(x y:Operand)(a b:ad):Bool:=
 match a,b with
 |.fU,.fU=>(x matches .const _)||(y matches .const _)
 |.agg _,.agg _=>!P.eqGuardType P.depth t
 |_,_=>true
def arith(op:BinOp)(k:IntKind)(x y:Int):Option ad:=
 match op with
 |.add=>some (.int k (k.wrap (x+y)))
 |.sub=>some (.int k (k.wrap (x-y)))
 |.mul=>some (.int k (k.wrap (x*y)))
 |.quo=>if y=0 then none else some (.int k (k.wrap (x.tdiv y)))
 |.rem=>if y=0 then none else some (.int k (x.tmod y))
 |.and=>some (.int k (k.wrap (BitVec.ofInt k.bits x&&&BitVec.ofInt k.bits y).toNat))
 |.or=>some (.int k (k.wrap (BitVec.ofInt k.bits x|||BitVec.ofInt k.bits y).toNat))
 |.xor=>some (.int k (k.wrap (BitVec.ofInt k.bits x^^^BitVec.ofInt k.bits y).toNat))
 |.andNot=>some (.int k (k.wrap (BitVec.ofInt k.bits x&&& ~~~BitVec.ofInt k.bits y).toNat))
 |.eql=>some (.bool (fc x y))
 |.neq=>some (.bool (!fc x y))
 |.lss=>some (.bool (gY x y))
 |.leq=>some (.bool (j5 x y))
 |.gtr=>some (.bool (gY y x))
 |.geq=>some (.bool (j5 y x))
 |_=>none
def tL(op:BinOp)(k:IntKind)(x y:Int):Option ad:=
 if y<0 then none else
 match op with
 |.shl=>some (.int k (k.wrap (x*2^(min y.toNat k.bits))))
 |.shr=>some (.int k (x.fdiv (2^(min y.toNat k.bits))))
 |_=>none
def hL(op:BinOp)(x y:List UInt8):Option ad:=
 match op with
 |.add=>if((x.length+y.length:Nat):Int)>IntKind.i64.max then none else some (.str (x++y))
 |.eql=>some (.bool (c1 x y))
 |.neq=>some (.bool (!c1 x y))
 |.lss=>some (.bool (eA x y))
 |.leq=>some (.bool (!eA y x))
 |.gtr=>some (.bool (eA y x))
 |.geq=>some (.bool (!eA x y))
 |_=>none
def ec(P:Program)(h:ab)(op:BinOp)(t:TypeId)(l8 l9:Operand)(x y:ad):Option ad:=
 match x,y with
 |.int k a,.int cO b=>
  match op with
  |.shl|.shr=>tL op k a b
  |_=>if k=cO then arith op k a b else none
 |.str a,.str b=>hL op a b
 |x,y=>
  match op with
  |.eql=>if tK P t l8 l9 x y then(match gZ P h 100 t x y with
   |some b=>some (.bool b)
   |none=>none) else none
  |.neq=>if tK P t l8 l9 x y then(match gZ P h 100 t x y with
   |some b=>some (.bool (!b))
   |none=>none) else none
  |_=>none
def fe:ad->Option Nat
 |.int _ (.ofNat n)=>some n
 |_=>none
def hU(d:Nat):Option ad->Option Nat
 |none=>some d
 |some v=>fe v
def bounds(len cap:Nat)(lo hi mx:Option ad):Option (Nat×Nat×Nat):=
 match hU cap mx with
 |none=>none
 |some m=>match Nat.ble m cap with
  |false=>none
  |true=>match(match hi,mx with
     |none,none=>some len
     |none,some _=>none
     |some v,_=>fe v) with
   |none=>none
   |some au=>match Nat.ble au m with
    |false=>none
    |true=>match hU 0 lo with
     |none=>none
     |some l=>match Nat.ble l au with
      |false=>none
      |true=>some (l,au,m)
def dC(P:Program)(h:ab)(t:TypeId)(x:ad)(lo hi mx:Option ad):Option ad:=
 match P.underlying t,x with
 |some .string,.str s=>match mx with
  |some _=>none
  |none=>match bounds s.length s.length lo hi none with
   |some (l,au,_)=>some (.str (List.take (au-l) (j4 l s)))
   |none=>none
 |some (.slice e),.aP=>match ef P e,bounds 0 0 lo hi mx with
  |some _,some _=>some .aP
  |_,_=>none
 |some (.slice e),.slice b off len (.exact cap)=>match ef P e,bounds len cap lo hi mx with
  |some sz,some (l,au,m)=>some (.slice b (if m=l then off else off+l*sz) (au-l) (.exact (m-l)))
  |_,_=>none
 |some (.slice e),.slice b off len (.aL hK)=>match ef P e with
  |some sz=>if sz=hK then(match mx with
   |none=>match bounds len len lo hi none with
    |some (l,au,_)=>if l=0 then some (.slice b off au (.aL hK)) else if Nat.blt l len then some (.slice b (off+l*sz) (au-l) (.aL hK)) else some (.slice b off 0 .dead)
    |none=>none
   |some _=>match bounds len len lo hi mx with
    |some (l,au,m)=>some (.slice b (if m=l then off else off+l*sz) (au-l) (.exact (m-l)))
    |none=>none) else none
  |none=>none
 |some (.slice e),.slice b off len .dead=>match ef P e,bounds 0 0 lo hi mx with
  |some _,some _=>some (.slice b off 0 .dead)
  |_,_=>none
 |some (.array n e),.ptr b off=>match ef P e,bounds n n lo hi mx with
  |some sz,some (l,au,m)=>some (.slice b (if m=l then off else off+l*sz) (au-l) (.exact (m-l)))
  |_,_=>none
 |some (.pointer arr),.ptr b off=>match P.underlying arr with
  |some (.array n e)=>match ef P e,bounds n n lo hi mx with
   |some sz,some (l,au,m)=>some (.slice b (if m=l then off else off+l*sz) (au-l) (.exact (m-l)))
   |_,_=>none
  |_=>none
 |_,_=>none
def bV(P:Program)(h:ab)(t:TypeId)(x:ad):Option ad:=
 match P.underlying t,x with
 |some .string,.str s=>some (.int .i64 (Int.ofNat s.length))
 |some (.array n _),_=>some (.int .i64 (Int.ofNat n))
 |some (.slice _),.slice _ _ n _=>some (.int .i64 (Int.ofNat n))
 |some (.slice _),.aP=>some (.int .i64 0)
 |some (.map _ _),.jw=>some (.int .i64 0)
 |some (.map _ _),.map r=>match h.get r with
  |some (.map es _)=>some (.int .i64 (Int.ofNat es.length))
  |_=>none
 |some (.pointer a),_=>match P.underlying a with
  |some (.array n _)=>some (.int .i64 (Int.ofNat n))
  |_=>none
 |_,_=>none
def xL(P:Program)(t:TypeId)(x:ad):Option ad:=
 match P.underlying t,x with
 |some (.array n _),_=>some (.int .i64 (Int.ofNat n))
 |some (.slice _),.slice _ _ _ (.exact n)=>some (.int .i64 (Int.ofNat n))
 |some (.slice _),.aP=>some (.int .i64 0)
 |_,_=>none
def dR:List UInt8->List ad
 |[]=>[]
 |b::l=>.int .u8 (Int.ofNat b.toNat)::dR l
def fu(h:ab)(size:Nat):ad->Option (Nat×List ad)
 |.aP=>some (0,[])
 |.str s=>match size with
  |1=>some (s.length,dR s)
  |_=>none
 |.slice b off len .dead=>if len=0 then some (0,[]) else none
 |.slice b off len _=>match loadCells h b off (len*size) with
  |some cs=>some (len,cs)
  |none=>none
 |_=>none
def mG(need bytes:Nat):Bool:=Nat.ble ((4*need+2048)*(bytes+1)) 281474976710656
def rf(P:Program):Option TypeId->Bool
 |none=>true
 |some t=>match P.underlying t with
  |some (.int _)=>false
  |some _=>true
  |none=>false
def l_(h:ab)(e bytes size need:Nat)(z:ad)(cs:List ad)(fz:Nat):Option (ad×ab):=
 match mG need bytes&&Nat.beq z.cells.length size&&cs.all ad.de with
 |true=>some (.slice h.n 0 need (.aL size),h.push (.cells cs e .aL 0 fz))
 |false=>none
def dJ(P:Program)(h:ab)(sT:TypeId)(xT:Option TypeId)(s x:ad):Option (ad×ab):=
 match P.underlying sT,rf P xT with
 |some (.slice e),true=>
  match P.info? e,eT P e with
  |some i,some z=>
   match fu h i.size x with
   |none=>none
   |some (n,cs)=>
    match s with
    |.aP=>match n with
     |0=>some (.aP,h)
     |_=>l_ h e i.bytes i.size n z cs 0
    |.slice b off len (.exact cap)=>
     match Nat.ble (len+n) cap with
     |true=>match n with
      |0=>some (.slice b off len (.exact cap),h)
      |_=>match storeCells h b (off+len*i.size) cs with
       |some aw=>some (.slice b off (len+n) (.exact cap),aw)
       |none=>none
     |false=>match loadCells h b off (len*i.size) with
      |some old=>l_ h e i.bytes i.size (len+n) z (old++cs) 0
      |none=>none
    |.slice b off len (.aL hK)=>
     match Nat.beq hK i.size&&Nat.blt 0 hK with
     |true=>match n with
      |0=>some (s,h)
      |_=>match h.get b with
       |some (.cells old el .aL lo hi)=>
        match Nat.ble (off+(len+n)*hK) old.length with
        |true=>match storeCells h b (off+len*hK) cs with
         |some aw=>some (.slice b off (len+n) (.aL hK),aw)
         |none=>none
        |false=>match Nat.ble hi (off+len*hK)&&Nat.beq el e,loadCells h b off (len*hK) with
         |true,some o=>l_ (h.set b none) e i.bytes i.size (len+n) z (o++cs) (hi-off)
         |_,_=>none
       |_=>none
     |false=>none
    |_=>none
  |_,_=>none
 |_,_=>none
def xM(P:Program)(h:ab)(C5:TypeId)(d s:ad):Option (ad×ab):=
 match P.underlying C5 with
 |some (.slice e)=>match ef P e with
  |some sz=>match fu h sz s with
   |some (n,cs)=>match d with
    |.aP=>some (.int .i64 0,h)
    |.slice b off len _=>
     let m:=Nat.min n len
     if m=0 then some (.int .i64 0,h) else
     match takeN (m*sz) cs with
     |some b5=>match storeCells h b off b5 with
      |some aw=>some (.int .i64 (Int.ofNat m),aw)
      |none=>none
     |none=>none
    |_=>none
   |none=>none
  |none=>none
 |_=>none
def rh(P:Program)(h:ab)(t:TypeId)(x:ad):Option (ad×ab):=
 match P.underlying t,x with
 |some (.map _ _),.jw=>some (.aR [],h)
 |some (.slice _),.aP=>some (.aR [],h)
 |some (.map _ _),.map r=>match h.get r with
  |some (.map _ c)=>some (.aR [],h.set r (some (.map [] c)))
  |_=>none
 |some (.slice e),.slice b off n _=>if n=0 then some (.aR [],h) else
  match eT P e with
  |some z=>match storeCells h b off (gm n z.cells) with
   |some aw=>some (.aR [],aw)
   |none=>none
  |none=>none
 |_,_=>none
def sm:ad->ad->Option ad
 |.int k x,.int cO y=>if k=cO then some (.int k (if gY y x then y else x)) else none
 |_,_=>none
def sn:ad->ad->Option ad
 |.int k x,.int cO y=>if k=cO then some (.int k (if gY x y then y else x)) else none
 |_,_=>none
def mH(f:ad->ad->Option ad):ad->List ad->Option ad
 |x,[]=>some x
 |x,y::l=>match f x y with
  |some z=>mH f z l
  |none=>none
def pw:List ad->Option (List UInt8)
 |[]=>some []
 |.int .u8 (.ofNat n)::l=>match Nat.blt n 256,pw l with
  |true,some r=>some (UInt8.ofNat n::r)
  |_,_=>none
 |_=>none
def ri(P:Program)(h:ab)(pT:TypeId)(p n:ad):Option (ad×ab):=
 match p,fe n with
 |.aX,some 0=>some (.str [],h)
 |.ptr b off,some n=>if n=0 then some (.str [],h) else
  match P.underlying pT,h.get b with
  |some (.pointer u),some (.cells cs el k lo hi)=>
   if P.underlyingId el=P.underlyingId u&&ef P el=some 1&&Nat.ble n 281474976710656&&decide (k≠ .ro) then
    (match takeN n (j4 off cs) with
    |some r=>match pw r with
     |some bs=>some (.str bs,h.set b (some (.cells cs el .fz lo hi)))
     |none=>none
    |none=>none) else none
  |_,_=>none
 |_,_=>none
def qi(P:Program)(kt:TypeId)(k:ad):Bool:=
 match P.underlying kt with
 |some (.int _)=>match k with
  |.int _ _=>true
  |_=>false
 |some .string=>match k with
  |.str _=>true
  |_=>false
 |some .bool=>match k with
  |.bool _=>true
  |_=>false
 |_=>false
def C6(P:Program)(cs:List ad):List Field->Bool
 |[]=>true
 |f::b6=>match kp P f.type cs f.offset with
  |some a=>match qi P f.type a with
   |true=>C6 P cs b6
   |false=>false
  |none=>false
def C7(P:Program)(e:TypeId)(sz:Nat)(cs:List ad):Nat->Nat->Bool
 |0,_=>true
 |n+1,i=>match kp P e cs (i*sz) with
  |some a=>match qi P e a with
   |true=>C7 P e sz cs n (i+1)
   |false=>false
  |none=>false
def nL(P:Program)(kt:TypeId)(k:ad):Bool:=
 match k with
 |.agg cs=>match P.underlying kt with
  |some (.struct b6)=>C6 P cs b6.toList
  |some (.array n e)=>match ef P e with
   |some sz=>C7 P e sz cs n 0
   |none=>false
  |_=>false
 |k=>qi P kt k
def rj:ad->ad->Option Bool
 |.int j a,.int k b=>if j=k then some (fc a b) else none
 |.str a,.str b=>some (c1 a b)
 |.bool a,.bool b=>some (a==b)
 |_,_=>none
def zY:List ad->List ad->Bool
 |[],[]=>true
 |a::l,b::m=>match rj a b with
  |some true=>zY l m
  |_=>false
 |_,_=>false
def tM(k x:ad):Bool:=match k,x with
 |.agg a,.agg b=>zY a b
 |.agg _,_=>false
 |_,_=>true
def rk(P:Program)(h:ab)(kt:TypeId)(k x:ad):Option Bool:=match k with
 |.agg cs=>gZ P h 8 kt (.agg cs) x
 |k=>rj k x
def k4(P:Program)(h:ab)(kt:TypeId)(k:ad):List eH->Nat->Option (Option (Nat×ad))
 |[],_=>some none
 |e::es,i=>match rk P h kt k e.key with
  |some true=>some (some (i,e.val))
  |some false=>k4 P h kt k es (i+1)
  |none=>none
def zZ(i:Nat)(es:List eH):ad:=match nth i es with
 |some e=>e.key
 |none=>.bad
def so(v:ad)(key:ad):Nat->List eH->List eH
 |_,[]=>[]
 |0,e::es=>⟨key,v,e.born⟩::es
 |n+1,e::es=>e::so v key n es
def rl(P:Program)(kI:TypeId)(ok:Bool):Option (Nat×ad)->Option ad
 |some (_,v)=>some (if ok then .aR [v,.bool true] else v)
 |none=>match eT P kI with
  |some z=>some (if ok then .aR [z,.bool false] else z)
  |none=>none
def ho(P:Program)(h:ab)(t:TypeId)(m k:ad)(ok:Bool):Option ad:=
 match P.underlying t with
 |some (.map kt kI)=>match nL P kt k with
  |true=>match m with
   |.jw=>rl P kI ok none
   |.map r=>match h.get r with
    |some (.map es _)=>match k4 P h kt k es 0 with
     |some r=>rl P kI ok r
     |none=>none
    |_=>none
   |_=>none
  |false=>none
 |_=>none
def xN(P:Program)(h:ab)(t:TypeId)(m k v:ad):Option ab:=
 match P.underlying t with
 |some (.map kt _)=>match nL P kt k with
  |true=>match m with
   |.map r=>match h.get r with
    |some (.map es clock)=>match k4 P h kt k es 0 with
     |some (some (i,_))=>match tM k (zZ i es) with
      |true=>some (h.set r (some (.map (so v k i es) clock)))
      |false=>none
     |some none=>some (h.set r (some (.map (es++[⟨k,v,clock⟩]) (clock+1))))
     |none=>none
    |_=>none
   |_=>none
  |false=>none
 |_=>none
def rm(P:Program)(h:ab)(t:TypeId)(m k:ad):Option (ad×ab):=
 match P.underlying t with
 |some (.map kt kI)=>match nL P kt k with
  |true=>match m with
   |.map r=>match h.get r with
    |some (.map es clock)=>match k4 P h kt k es 0 with
     |some (some (i,v))=>match nth i es with
      |some e=>match tM k e.key with
       |true=>some (.aR [v,.int .i64 (Int.ofNat e.born)],h.set r (some (.map (so v k i es) clock)))
       |false=>none
      |none=>none
     |some none=>match eT P kI with
      |some z=>some (.aR [z,.int .i64 (Int.ofNat clock)],h.set r (some (.map (es++[⟨k,z,clock⟩]) (clock+1))))
      |none=>none
     |none=>none
    |_=>none
   |_=>none
  |false=>none
 |_=>none
def vz(born:Int):List eH->Nat->Option (Nat×eH)
 |[],_=>none
 |e::es,i=>match fc (Int.ofNat e.born) born with
  |true=>some (i,e)
  |false=>vz born es (i+1)
def rn(h:ab)(m s v:ad):Option ab:=
 match m,s with
 |.map r,.int _ born=>match h.get r with
  |some (.map es clock)=>match vz born es 0 with
   |some (i,e)=>some (h.set r (some (.map (so v e.key i es) clock)))
   |none=>none
  |_=>none
 |_,_=>none
def z0:Nat->List eH->List eH
 |_,[]=>[]
 |0,_::es=>es
 |n+1,e::es=>e::z0 n es
def rp(P:Program)(h:ab)(t:TypeId)(m k:ad):Option (ad×ab):=
 match P.underlying t with
 |some (.map kt _)=>match nL P kt k with
  |true=>match m with
   |.jw=>some (.aR [],h)
   |.map r=>match h.get r with
    |some (.map es clock)=>match k4 P h kt k es 0 with
     |some (some (i,_))=>some (.aR [],h.set r (some (.map (z0 i es) clock)))
     |some none=>some (.aR [],h.set r (some (.map es clock)))
     |none=>none
    |_=>none
   |_=>none
  |false=>none
 |_=>none
def Gi(s:List UInt8):Nat×Nat:=Utf8.decode ⟨s.toArray⟩ 0
def C8(h:ab)(it:ad)(isStr:Bool):Option (ad×ab):=
 match it with
 |.ptr r 0=>match h.get r,isStr with
  |some (.tJ s pos),true=>
   (match s with
   |[]=>some (.aR [.bool false],h)
   |s=>let(c,w):=Gi s
    some (.aR [.bool true,.int .i64 (Int.ofNat pos),.int .i32 (Int.ofNat c)],h.set r (some (.tJ (j4 w s) (pos+w)))))
  |some (.mapIter none _ _ _),false=>some (.aR [.bool false],h)
  |_,_=>none
 |_=>none
def vA(b:Nat):List eH->Option eH
 |[]=>none
 |e::l=>match Nat.beq e.born b with
  |true=>some e
  |false=>vA b l
def z1:List Nat->Option Nat
 |[]=>none
 |[b]=>some b
 |_::b::l=>z1 (b::l)
def vB(h:ab)(it:ad):Option ad:=
 match it with
 |.ptr r 0=>match h.get r with
  |some (.mapIter (some m) _ seen last)=>match h.get m,z1 seen with
   |some (.map es clock),some b=>match Nat.beq clock last with
    |true=>match vA b es with
     |some e=>some (.aR [e.key,e.val])
     |none=>none
    |false=>none
   |_,_=>none
  |_=>none
 |_=>none
inductive bU where
 |none|act (v:ad)|done (v:ad)
inductive bW where
 |nrm|exit (id:Nat)|ret|goto (l:Nat)|cw (v:ad)
inductive k5 where
 |ok (e:bW) (r:ba) (d:List cb) (q:bU) (h:ab)
 |fail (kH:String)
inductive ff where
 |fn (f:Nat)|eb (l:Nat)
abbrev aW:=ff->List ad->ab->bE
inductive Acc where
 |env (j:Nat)|reg (p:jG)|val (v:ad)
def ep(m:Nat)(env:List ad)(r:ba):Acc->ad
 |.env j=>(nth (m-1-j) env).getD .bad
 |.reg p=>r.get p
 |.val v=>v
def jx(t:Nat):List (Nat×Acc)->Option Acc
 |[]=>none
 |(u,a)::l=>match Nat.beq t u with
  |true=>some a
  |false=>jx t l
def da(P:Program)(need:Nat)(loc:List (Nat×Acc)):Operand->Acc
 |.tmp t=>match jx t loc with
  |some a=>a
  |none=>match Nat.testBit need t with
   |true=>.reg (h_ t)
   |false=>.val .bad
 |.const v=>.val (qh v)
 |.global g=>match Nat.blt g P.globals.size with
  |true=>.val (.ptr g 0)
  |false=>.val .bad
 |.func f=>.val (.fn f [] [])
def vC(f:ad)(args:List ad)(h:ab):ia:=
 match f with
 |.fn g first a_=>.call g (first++args++a_) h
 |.eb l=>.eb l args h
 |_=>.fail ""
def gL(h:ab)(kH:String):Option ad->ia
 |some v=>.val v h
 |none=>.fail kH
def na(kH:String):Option (ad×ab)->ia
 |some (v,h)=>.val v h
 |none=>.fail kH
def sq(kH:String):Option ab->ia
 |some h=>.val (.aR []) h
 |none=>.fail kH
def kindName:ad->String
 |.bad=> "bad" |.bool _=> "bool" |.int _ n=> "int" ++toString n|.str s=> "str" ++toString s.length|.aX=> "nilP" |.ptr b o=> "ptr" ++toString b++ "+" ++toString o|.aP=> "nilS" |.slice b o n c=> "slice" ++toString b++ "+" ++toString o++ "," ++toString n++(match c with|.exact k=> "x" ++toString k|.aL _=> "o" |.dead=> "d")
 |.jw=> "nilM" |.map _=> "map" |.gW=> "nilF" |.fn f _ _=> "fn" ++toString f|.eb _=> "yld" |.fU=> "nilI" |.iface t _=> "iface" ++toString t|.agg l=> "agg" ++toString l.length|.aR l=> "tup" ++toString l.length
def C9(P:Program)(t:TypeId)(name:String):Option Nat:=
 match P.info? t with
 |some i=>match i.methods.find? (·.name==name) with
  |some m=>match m.path.isEmpty,m.func,P.underlying t with
   |true,some (f,true),some (.pointer _)=>some f
   |true,some (f,false),some (.pointer _)=>none
   |true,some (f,false),some _=>some f
   |_,_,_=>none
  |none=>none
 |none=>none
def jH(P:Program)(b:Builtin)(ats:Array TypeId)(vs:List ad)(h:ab):ia:=
 match b with
 |.recover=>.vy
 |.min=>match vs with
  |x::l=>gL h "" (mH sm x l)
  |[]=>.fail ""
 |.max=>match vs with
  |x::l=>gL h "" (mH sn x l)
  |[]=>.fail ""
 |b=>match ats[0]?,vs with
  |some t,[x]=>match b with
   |.len=>gL h "" (bV P h t x)
   |.cap=>gL h "" (xL P t x)
   |.clear=>na "" (rh P h t x)
   |.unsafeSliceData=>match x with
    |.aP=>.val .aX h
    |.slice b off n (.exact c)=>if c=0 then .fail "" else .val (.ptr b off) h
    |.slice b off n (.aL _)=>if n=0 then .fail "" else .val (.ptr b off) h
    |_=>.fail ""
   |_=>.fail ""
  |some t,[x,y]=>match b with
   |.append=>na "" (dJ P h t ats[1]? x y)
   |.copy=>na "" (xM P h t x y)
   |.delete=>na "" (rp P h t x y)
   |.unsafeString=>na "" (ri P h t x y)
   |_=>.fail ""
  |_,_=>.fail ""
def hp(P:Program)(src dst:TypeId)(x:ad)(h:ab):ia:=
 match P.underlying src,P.underlying dst,x with
 |some (.int _),some (.int k),.int _ n=>.val (.int k (k.wrap n)) h
 |some (.int _),some .string,.int _ n=>.val (.str (Utf8.encode n).data.toList) h
 |some .string,some .string,.str s=>.val (.str s) h
 |some .string,some (.slice e),.str s=>match P.underlying e with
  |some (.int .u8)=>.val (.slice h.n 0 s.length (.aL 1)) (h.push (.cells (dR s) e .aL 0 0))
  |_=>.fail ""
 |some (.slice e),some .string,v=>match P.underlying e,v with
  |some (.int .u8),.aP=>.val (.str []) h
  |some (.int .u8),.slice b off n .dead=>if n=0 then .val (.str []) h else .fail ""
  |some (.int .u8),.slice b off n _=>match loadCells h b off n with
   |some cs=>match pw cs with
    |some bs=>.val (.str bs) h
    |none=>.fail ""
   |none=>.fail ""
  |_,_=>.fail ""
 |some (.pointer u),some .unsafePointer,.ptr b off=>match h.get b,ef P u with
  |some (.cells cs _ _ _ _),some (_+1)=>if Nat.blt off cs.length then .val (.ptr b off) h else .fail ""
  |_,_=>.fail ""
 |some .unsafePointer,some (.pointer u),.ptr b off=>match h.get b,ef P u with
  |some (.cells cs el .own _ _),some (_+1)=>if liesAt P P.depth el (cs.length/P.cellsOf el) off u 1 then .val (.ptr b off) h else .fail ""
  |_,_=>.fail ""
 |_,_,v=>.fail ""
def c7(P:Program)(o:Oper)(g:Operand->ad)(h:ab):ia:=
 match o.op with
 |.move x|.assign x=>.val (g x) h
 |.pick c a b=>match g c with
  |.bool true=>.val (g a) h
  |.bool false=>.val (g b) h
  |_=>.fail ""
 |.alloc e=>match eT P e with
  |some z=>match newRow h e z.cells with
   |some (b,aw)=>.val (.ptr b 0) aw
   |none=>.fail ""
  |none=>.fail ""
 |.box e x=>match newRow h e (g x).cells with
  |some (b,aw)=>.val (.ptr b 0) aw
  |none=>.fail ""
 |.build t parts=>match eT P t with
  |some z=>match P.underlying t with
   |some (.struct b6)=>match b6.toList.all (λf=>(ef P f.type).isSome),lq (λi=>(b6[i]?).map λf=>(f.offset,P.cellsOf f.type)) z.cells (parts.toList.map λp=>(p.1,g p.2)) with
    |true,some cs=>.val (.agg cs) h
    |_,_=>.fail ""
   |some (.array _ e)=>match ef P e with
    |some sz=>match lq (λi=>some (i*sz,sz)) z.cells (parts.toList.map λp=>(p.1,g p.2)) with
     |some cs=>.val (.agg cs) h
     |none=>.fail ""
    |none=>.fail ""
   |_=>.fail ""
  |none=>.fail ""
 |.buildSlice t len parts=>match P.underlying t with
  |some (.slice e)=>match ef P e,eT P e with
   |some sz,some z=>match Nat.ble (len*sz) 16777216&&Nat.beq z.cells.length sz,lq (λi=>some (i*sz,sz)) (if len*sz=0 then[] else gm len z.cells) (parts.toList.map λp=>(p.1,g p.2)) with
    |true,some cs=>match newRow h e cs with
     |some (b,aw)=>.val (.slice b 0 len (.exact len)) aw
     |none=>.fail ""
    |_,_=>.fail ""
   |_,_=>.fail ""
  |_=>.fail ""
 |.insert t m k v=>sq "" (xN P h t (g m) (g k) (g v))
 |.load t a=>match g a with
  |.ptr b off=>match re P t,ef P t with
   |some true,some n=>match loadCells h b off n with
    |some cs=>.val (.agg cs) h
    |none=>.fail ""
   |some false,_=>gL h "" (aq h b off)
   |_,_=>.fail ""
  |v=>.fail ""
 |.store t a v=>match g a with
  |.ptr b off=>match g v,ef P t with
   |.bad,_=>.fail ""
   |v,some n=>match Nat.beq v.cells.length n with
    |true=>sq "" (storeCells h b off v.cells)
    |false=>.fail ""
   |_,none=>.fail ""
  |_=>.fail ""
 |.ready _|.waits _=>.fail ""
 |.nilCheck x=>match g x with
  |.ptr b o=>.val (.ptr b o) h
  |.slice b o n c=>.val (.slice b o n c) h
  |.fn f a b=>.val (.fn f a b) h
  |.iface t v=>.val (.iface t v) h
  |_=>.fail ""
 |.binOp op t x y _=>gL h "" (ec P h op t x y (g x) (g y))
 |.unOp op _ x=>match op,g x with
  |.not,.bool b=>.val (.bool (!b)) h
  |.neg,.int k n=>.val (.int k (k.wrap (0-n))) h
  |.xor,.int k n=>gL h "" (arith .xor k (if k.signed then-1 else k.max) n)
  |_,_=>.fail ""
 |.convert src dst x=>hp P src dst (g x) h
 |.sliceToArrayPointer .. =>.fail ""
 |.makeInterface t x=>match P.underlying t with
  |some (.interface _)=>.fail ""
  |some _=>.val (.iface t (g x)) h
  |none=>.fail ""
 |.makeFunc fn first a_=>match fn with
  |.func f=>.val (.fn f (first.toList.map g) (a_.toList.map g)) h
  |_=>.fail ""
 |.makeMap t r=>match r with
  |none=>.val (.map h.n) (h.push (.map [] 0))
  |some x=>match P.underlying t,g x with
   |some (.map _ _),.int _ _=>.val (.map h.n) (h.push (.map [] 0))
   |_,_=>.fail ""
 |.makeChan .. =>.fail ""
 |.makeSlice t l c=>match P.underlying t,fe (g l),fe (g c) with
  |some (.slice e),some l,some c=>match P.info? e,eT P e with
   |some i,some z=>if l<=c&&Nat.ble (c*(i.bytes+1)) 1099511627776&&Nat.beq z.cells.length i.size then(match newRow h e (if c*i.size=0 then[] else gm c z.cells) with
    |some (b,aw)=>.val (.slice b 0 l (.exact c)) aw
    |none=>.fail "") else .fail ""
   |_,_=>.fail ""
  |_,_,_=>.fail ""
 |.slice t x lo hi mx=>gL h "" (dC P h t (g x) (lo.map g) (hi.map g) (mx.map g))
 |.fieldAddr s x f=>match P.underlying s,g x with
  |some (.struct b6),.ptr b off=>match b6[f]? with
   |some fd=>match ef P fd.type with
    |some 0=>.fail ""
    |some _=>.val (.ptr b (off+fd.offset)) h
    |none=>.fail ""
   |none=>.fail ""
  |_,v=>.fail ""
 |.field t x f=>match P.underlying t,g x with
  |some (.struct b6),.agg cs=>match b6[f]? with
   |some fd=>gL h "" (kp P fd.type cs fd.offset)
   |none=>.fail ""
  |_,_=>.fail ""
 |.indexAddr t x i=>match P.underlying t,g x,fe (g i) with
  |some (.array n e),.ptr b off,some i=>match ef P e with
   |some sz=>if i<n then .val (.ptr b (off+i*sz)) h else .fail ""
   |none=>.fail ""
  |some (.slice e),.slice b off n c,some i=>match ef P e with
   |some sz=>if i<n then .val (.ptr b (off+i*sz)) h else .fail ""
   |none=>.fail ""
  |_,v,w=>.fail ""
 |.index t x i=>match P.underlying t,g x,fe (g i) with
  |some (.array n e),.agg cs,some i=>match ef P e with
   |some sz=>if i<n then gL h "" (kp P e cs (i*sz)) else .fail ""
   |none=>.fail ""
  |some .string,.str s,some i=>match nth i s with
   |some b=>.val (.int .u8 (Int.ofNat b.toNat)) h
   |none=>.fail ""
  |_,_,_=>.fail ""
 |.lookup t x i ok=>gL h "" (ho P h t (g x) (g i) ok)
 |.mapUpdate t m k v=>sq "" (xN P h t (g m) (g k) (g v))
 |.mapEntry t m k=>na "" (rm P h t (g m) (g k))
 |.entryStore t m s v=>sq "" (rn h (g m) (g s) (g v))
 |.range t x=>match P.underlying t,g x with
  |some .string,.str s=>.val (.ptr h.n 0) (h.push (.tJ s 0))
  |some (.map _ _),.jw=>.val (.ptr h.n 0) (h.push (.mapIter none 0 [] 0))
  |some (.map _ _),.map m=>match h.get m with
   |some (.map _ c)=>.val (.ptr h.n 0) (h.push (.mapIter (some m) c [] c))
   |_=>.fail ""
  |_,_=>.fail ""
 |.next it isStr=>na "" (C8 h (g it) isStr)
 |.entry it=>gL h "" (vB h (g it))
 |.typeAssert x xT as ok=>match P.underlying as,g x with
  |some (.interface _),_=>.fail ""
  |some _,.fU=>if ok then(match eT P as with|some z=>.val (.aR [z,.bool false]) h|none=>.fail "") else .fail ""
  |some _,.iface t v=>if t=as then .val (if ok then .aR [v,.bool true] else v) h else
   if ok then(match eT P as with|some z=>.val (.aR [z,.bool false]) h|none=>.fail "") else .fail ""
  |_,_=>.fail ""
 |.extract t i=>match g t with
  |.aR vs=>gL h "" (nth i vs)
  |_=>.fail ""
 |.call c=>match c.callee with
  |.value f=>vC (g f) (c.args.toList.map g) h
  |.invoke r name=>match g r with
   |.iface t v=>match C9 P t name with
    |some f=>.call f (v::c.args.toList.map g) h
    |none=>.fail ""
   |_=>.fail ""
  |.builtin b=>jH P b c.argTypes (c.args.toList.map g) h
 |.go _=>.fail ""
 |.defer c=>match c.callee with
  |.value f=>match g f with
   |.fn k first a_=>.m_ (.call k (first++c.args.toList.map g++a_))
   |_=>.fail ""
  |_=>.fail ""
 |.panic x=>match g x with
  |.iface t v=>.cw (.iface t v) h
  |_=>.fail ""
 |.send .. |.recv .. |.select .. =>.fail ""
structure Step where
 guard:Option (Acc×Bool)
 o:Oper
 loc:List (Nat×Acc)
 m:Nat
structure LN where
 steps:List Step
 loc:List (Nat×Acc)
def k6(P:Program)(need:Nat)(ops:Array Oper)(loc:List (Nat×Acc))(o:Oper):Option (Acc×Bool):=
 match o.guard with
 |none=>none
 |some (j,b)=>match(ops[j]?).bind (·.dst) with
  |some t=>some (da P need loc (.tmp t),b)
  |none=>some (.val .bad,b)
def aliasOf(o:Oper):Option (Nat×Operand):=
 match o.guard,o.dst,o.op with
 |none,some t,.move x=>some (t,x)
 |none,some t,.assign x=>some (t,x)
 |_,_,_=>none
def ix(o:Oper)(m:Nat)(loc:List (Nat×Acc)):List (Nat×Acc):=
 match o.dst with
 |some t=>(t,.env m)::loc
 |none=>loc
def xO(P:Program)(need:Nat)(ops:Array Oper):List Oper->List (Nat×Acc)->List Step->Nat->LN
 |[],loc,st,_=>⟨st.reverse,loc⟩
 |o::rest,loc,st,m=>
  match aliasOf o with
  |some (t,x)=>xO P need ops rest ((t,da P need loc x)::loc) st m
  |none=>xO P need ops rest (ix o m loc) (⟨k6 P need ops loc o,o,loc,m⟩::st) (m+1)
def rq(P:Program)(need:Nat)(ops:Array Oper):LN:=xO P need ops ops.toList [] [] 0
inductive oH where
 |ok (env:List ad) (d:List cb) (q:bU) (h:ab)
 |cw (v:ad) (d:List cb) (q:bU) (h:ab)
 |fail (kH:String)
inductive z2 where
 |ok (v:ad) (d:List cb) (q:bU) (h:ab)
 |cw (v:ad) (d:List cb) (q:bU) (h:ab)
 |fail (kH:String)
def fg:Option (ad×Bool)->Option Bool
 |none=>some true
 |some (.bool c,b)=>some (c==b)
 |some (.aR [],_)=>some false
 |_=>none
def z3(d:List cb)(q:bU):bE->z2
 |.ret v h=>.ok v d q h
 |.cw v h=>.cw v d q h
 |.fail w=>.fail w
def eI(P:Program)(inR:Bool)(call:ff->List ad->ab->bE)(gd:Option (ad×Bool))(o:Oper)(g:Operand->ad)(d:List cb)(q:bU)(h:ab):z2:=
 match fg gd with
 |none=>.fail ""
 |some false=>.ok (.aR []) d q h
 |some true=>
  match c7 P o g h with
  |.val v aw=>.ok v d q aw
  |.cw v aw=>.cw v d q aw
  |.call f args aw=>z3 d q (call (.fn f) args aw)
  |.eb l args aw=>z3 d q (call (.eb l) args aw)
  |.m_ x=>if inR then .fail "" else .ok (.aR []) (x::d) q h
  |.vy=>if inR then .fail "" else match q with
   |.none=>.ok .fU d .none h
   |.done v=>.ok .fU d (.done v) h
   |.act v=>.ok v d (.done v) h
  |.fail w=>.fail (w++ " at " ++o.pos)
def jI(P:Program)(need:Nat)(inR:Bool)(call:ff->List ad->ab->bE)(r:ba):List Step->List ad->List cb->bU->ab->oH
 |[],env,d,q,h=>.ok env d q h
 |s::rest,env,d,q,h=>
  match eI P inR call (match s.guard with|none=>none|some (a,b)=>some (ep s.m env r a,b)) s.o (λx=>ep s.m env r (da P need s.loc x)) d q h with
  |.ok v d' br aw=>jI P need inR call r rest (v::env) d' br aw
  |.cw v d' br aw=>.cw v d' br aw
  |.fail w=>.fail w
def ct.beq:ct->ct->Bool
 |.exact a,.exact b=>Nat.beq a b
 |.aL a,.aL b=>Nat.beq a b
 |.dead,.dead=>true
 |_,_=>false
mutual
def ad.beq:ad->ad->Bool
 |.bool a,.bool b=>a==b
 |.int j a,.int k b=>decide (j=k)&&fc a b
 |.str a,.str b=>c1 a b
 |.aX,.aX=>true
 |.ptr a i,.ptr b j=>Nat.beq a b&&Nat.beq i j
 |.aP,.aP=>true
 |.slice a i n c,.slice b j m d=>Nat.beq a b&&Nat.beq i j&&Nat.beq n m&&c.beq d
 |.jw,.jw=>true
 |.map a,.map b=>Nat.beq a b
 |.gW,.gW=>true
 |.fn f a b,.fn g c d=>Nat.beq f g&&ad.px a c&&ad.px b d
 |.eb a,.eb b=>Nat.beq a b
 |.fU,.fU=>true
 |.iface t v,.iface u w=>Nat.beq t u&&ad.beq v w
 |.agg a,.agg b=>ad.px a b
 |.aR a,.aR b=>ad.px a b
 |_,_=>false
def ad.px:List ad->List ad->Bool
 |[],[]=>true
 |a::as,b::bs=>ad.beq a b&&ad.px as bs
 |_,_=>false
end
inductive TM where
 |pure|alloc|e3
def kindOf(P:Program):Op->TM
 |.move _|.assign _|.pick .. |.build .. |.load .. |.nilCheck _|.binOp .. |.unOp .. |.makeInterface .. |.makeFunc .. |.slice .. |.fieldAddr .. |.field .. |.indexAddr .. |.index .. |.lookup .. |.typeAssert .. |.extract .. =>.pure
 |.convert _ d _=>match P.underlying d with
  |some (.slice _)=>.e3
  |_=>.pure
 |.call c=>match c.callee with
  |.builtin .len|.builtin .cap|.builtin .min|.builtin .max|.builtin .unsafeSliceData=>.pure
  |_=>.e3
 |.alloc _|.box .. |.buildSlice .. |.makeSlice .. =>.alloc
 |.makeMap _ none=>.alloc
 |_=>.e3
def lN(P:Program)(o:Op)(g:Operand->ad)(b:Nat):Option (ad×dQ):=
 match o with
 |.alloc e=>match eT P e with
  |some z=>match z.cells.all ad.de with
   |true=>some (.ptr b 0,.cells z.cells e .own 0 0)
   |false=>none
  |none=>none
 |.box e x=>match(g x).cells.all ad.de with
  |true=>some (.ptr b 0,.cells (g x).cells e .own 0 0)
  |false=>none
 |.buildSlice t len parts=>match P.underlying t with
  |some (.slice e)=>match ef P e,eT P e with
   |some sz,some z=>match Nat.ble (len*sz) 16777216&&Nat.beq z.cells.length sz,lq (λi=>some (i*sz,sz)) (if len*sz=0 then[] else gm len z.cells) (parts.toList.map λp=>(p.1,g p.2)) with
    |true,some cs=>match cs.all ad.de with
     |true=>some (.slice b 0 len (.exact len),.cells cs e .own 0 0)
     |false=>none
    |_,_=>none
   |_,_=>none
  |_=>none
 |.makeSlice t l c=>match P.underlying t,fe (g l),fe (g c) with
  |some (.slice e),some l,some c=>match P.info? e,eT P e with
   |some i,some z=>match decide (l<=c)&&Nat.ble (c*(i.bytes+1)) 1099511627776&&Nat.beq z.cells.length i.size,(if c*i.size=0 then[] else gm c z.cells) with
    |true,cs=>match cs.all ad.de with
     |true=>some (.slice b 0 l (.exact c),.cells cs e .own 0 0)
     |false=>none
    |_,_=>none
   |_,_=>none
  |_,_,_=>none
 |.makeMap _ none=>some (.map b,.map [] 0)
 |_=>none
structure DStep where
 i:Nat
 o:Oper
 fV:Nat
 loc:List (Nat×Acc)
def z4(hM:List Nat)(n:Nat)(o:Oper):Nat:=
 o.after.foldl (λs e=>match Region.binds .any e with
  |true=>s|||1<<<e.on|||(nth (n-1-e.on) hM).getD 0
  |false=>s) 0
def f_:List Oper->Nat->List (Nat×Acc)->List Nat->List DStep
 |[],_,_,_=>[]
 |o::l,n,loc,hM=>
  let m:=z4 hM n o
  ⟨n,o,m,loc⟩::f_ l (n+1) (ix o n loc) (m::hM)
def kq:List Oper->Nat->List (Nat×Acc)->List (Nat×Acc)
 |[],_,loc=>loc
 |o::l,n,loc=>kq l (n+1) (ix o n loc)
def h1(P:Program)(need:Nat)(ops:Array Oper)(r:ba)(n:Nat)(env:List ad)(s:DStep):Option (ad×Bool):=
 match k6 P need ops s.loc s.o with
 |none=>none
 |some (a,b)=>some (ep n env r a,b)
inductive Gj where
 |ok (env:List ad) (d:List cb) (q:bU) (h:ab) (bu:List (Nat×Nat×ab))
 |cw (v:ad) (env:List ad) (d:List cb) (q:bU) (h:ab) (bu:List (Nat×Nat×ab))
 |fail (kH:String)
def hq(P:Program)(need:Nat)(inR:Bool)(call:ff->List ad->ab->bE)(ops:Array Oper)(r:ba)(c2:Nat):List DStep->List ad->List cb->bU->ab->List (Nat×Nat×ab)->Gj
 |[],env,d,q,h,bu=>.ok env d q h bu
 |s::rest,env,d,q,h,bu=>
  let gd:=h1 P need ops r s.i env s
  let g:=λx=>ep s.i env r (da P need s.loc x)
  match kindOf P s.o.op with
  |.alloc=>match fg gd with
   |none=>.fail ""
   |some false=>hq P need inR call ops r c2 rest (.aR []::env) d q h bu
   |some true=>match lN P s.o.op g (c2+s.i) with
    |some (v,o)=>hq P need inR call ops r c2 rest (v::env) d q (h.set (c2+s.i) (some o)) bu
    |none=>.fail ""
  |.pure=>match eI P inR call gd s.o g d q h with
   |.ok v _ _ _=>hq P need inR call ops r c2 rest (v::env) d q h bu
   |.cw _ _ _ _=>.fail ""
   |.fail w=>.fail w
  |.e3=>
   match(match bu with|[]=>true|(e,_,_)::_=>Nat.testBit s.fV e) with
   |false=>.fail ""
   |true=>match eI P inR call gd s.o g d q h with
    |.ok v d' br aw=>hq P need inR call ops r c2 rest (v::env) d' br aw ((s.i,s.fV,h)::bu)
    |.cw v d' br aw=>match rest.all (λs'=>Nat.testBit s'.fV s.i) with
     |true=>.cw v env d' br aw ((s.i,s.fV,h)::bu)
     |false=>.fail ""
    |.fail w=>.fail w
def nM(P:Program)(need:Nat)(ops:Array Oper)(r:ba)(n:Nat)(env:List ad)(s:DStep)(v:ad)(h:ab):Bool:=
 match fg (h1 P need ops r n env s) with
 |none=>false
 |some false=>true
 |some true=>match c7 P s.o (λx=>ep n env r (da P need s.loc x)) h with
  |.val v' _=>ad.beq v' v
  |_=>false
def mI(P:Program)(need:Nat)(ops:Array Oper)(r:ba)(n:Nat)(env:List ad)(s:DStep)(v:ad):Option Nat->ab->List (Nat×Nat×ab)->Bool
 |er,h,bu=>
  (match(match er with|none=>false|some e=>Nat.testBit s.fV e)||(match bu with|[]=>false|(_,m,_)::_=>Nat.testBit m s.i) with
   |true=>true
   |false=>nM P need ops r n env s v h)&&
  (match bu with
   |[]=>true
   |(e,_,aw)::rest=>mI P need ops r n env s v (some e) aw rest)
def nd(P:Program)(need:Nat)(ops:Array Oper)(r:ba)(n:Nat)(env:List ad)(last:Option Nat)(h:ab)(bu:List (Nat×Nat×ab)):List DStep->Bool
 |[]=>true
 |s::rest=>(match Nat.blt s.i n,kindOf P s.o.op with
   |true,.pure=>mI P need ops r n env s ((nth (n-1-s.i) env).getD .bad) last h bu
   |_,_=>true)&&nd P need ops r n env last h bu rest
def vD(P:Program)(need:Nat)(inR:Bool)(call:ff->List ad->ab->bE)(ops:Array Oper)(r:ba)(d:List cb)(q:bU)(h:ab):oH:=
 let steps:=f_ ops.toList 0 [] []
 match hq P need inR call ops r h.n steps [] d q ⟨h.t,h.n+ops.size⟩ [] with
 |.ok env d' br aw bu=>match nd P need ops r env.length env none aw bu steps with
  |true=>.ok env d' br aw
  |false=>.fail ""
 |.cw v env d' br aw bu=>match bu with
  |(e,_,h0)::rest=>match nd P need ops r env.length env (some e) h0 rest steps with
   |true=>.cw v d' br aw
   |false=>.fail ""
  |[]=>.fail ""
 |.fail w=>.fail w
def rr(need:Nat)(m:Nat)(env:List ad)(gE:ba):List (Nat×Acc)->ba->ba
 |[],r=>r
 |(t,a)::l,r=>
  let r':=rr need m env gE l r
  match Nat.testBit need t with
  |true=>r'.set (h_ t) (ep m env gE a)
  |false=>r'
def xP:List (Nat×Acc)->ba->ba
 |[],r=>r
 |(t,_)::l,r=>(xP l r).set (h_ t) .bad
def oI(need:Nat)(r:ba)(loc:List (Nat×Acc)):oH->k5
 |.ok env d q h=>.ok .nrm (rr need env.length env r loc r) d q h
 |.cw v d q h=>.ok (.cw v) (xP loc r) d q h
 |.fail w=>.fail w
def sr(x:k5)(f:ba->List cb->bU->ab->k5):k5:=
 match x with
 |.ok .nrm r d q h=>f r d q h
 |x=>x
def ru(f:ba->List cb->bU->ab->k5):Nat->ba->List cb->bU->ab->k5
 |0,_,_,_,_=>.fail ""
 |n+1,r,d,q,h=>sr (f r d q h) (ru f n)
def qj(rd:Option Nat)(n:Nat):Nat:=match rd with
 |none=>n+1
 |some _=>n
def z5(need:Nat)(rd:Option Nat)(r:ba)(ps:List Nat)(as cK:Code)(d:List cb)(h:ab):Option (List cb×ab):=
 match rd with
 |none=>some (.collected h.n::d,(h.push (.defrd (some []))).push (.loop .ready none need r ps as cK h.n))
 |some rv=>match h.get rv with
  |some (.loop _ _ _ _ _ _ _ fy)=>some (d,h.push (.loop .ready none need r ps as cK fy))
  |_=>none
def py(l:Nat)(r:ba)(d:List cb)(q:bU):bE->k5
 |.ret _ h=>match h.get l with
  |some (.loop st gX ib rg ps as cK fy)=>match st with
   |.busy=>.fail ""
   |_=>match gX with
    |none=>.ok .nrm r d q (h.set l (some (.loop .exhausted gX ib rg ps as cK fy)))
    |some .ret=>.ok .ret r d q (h.set l (some (.loop .exhausted gX ib rg ps as cK fy)))
    |some (.exit id)=>.ok (.exit id) r d q (h.set l (some (.loop .exhausted gX ib rg ps as cK fy)))
    |_=>.fail ""
  |_=>.fail ""
 |.cw v h=>.ok (.cw v) r d q h
 |.fail w=>.fail w
def et(P:Program)(need:Nat)(rd:Option Nat)(call:ff->List ad->ab->bE):Code->ba->List cb->bU->ab->k5
 |.skip,r,d,q,h=>.ok .nrm r d q h
 |.region id ops draw,r,d,q,h=>
  match draw with
  |false=>
   let pl:=rq P need ops
   oI need r pl.loc (jI P need rd.isSome call r pl.steps [] d q h)
  |true=>oI need r (kq ops.toList 0 []) (vD P need rd.isSome call ops r d q h)
 |.seq a b,r,d,q,h=>sr (et P need rd call a r d q h) (et P need rd call b)
 |.cond c a b,r,d,q,h=>match ep 0 [] r (da P need [] c) with
  |.bool true=>et P need rd call a r d q h
  |.bool false=>et P need rd call b r d q h
  |_=>.fail ""
 |.block id b,r,d,q,h=>match et P need rd call b r d q h with
  |.ok (.exit i) r' d' br aw=>if i=id then .ok .nrm r' d' br aw else .ok (.exit i) r' d' br aw
  |x=>x
 |.loop b,r,d,q,h=>ru (et P need rd call b) 100000 r d q h
 |.exit id,r,d,q,h=>.ok (.exit id) r d q h
 |.ret,r,d,q,h=>.ok .ret r d q h
 |.label _,r,d,q,h=>.ok .nrm r d q h
 |.goto l,r,d,q,h=>.fail ""
 |.scope b,r,d,q,h=>et P need rd call b r d q h
 |.rangeFunc f params assign body,r,d,q,h=>
  match z5 need rd r params.toList assign body d h with
  |none=>.fail ""
  |some (d',I)=>
   match vC (ep 0 [] r (da P need [] f)) [.eb (qj rd h.n)] I with
   |.call g args ae=>py (qj rd h.n) r d' q (call (.fn g) args ae)
   |.eb bw args ae=>py (qj rd h.n) r d' q (call (.eb bw) args ae)
   |_=>.fail ""
 |.refuse w,_,_,_,_=>.fail ""
def bit(t:Nat):Nat:=1<<<t
def LO:List Oper->Nat->Nat->Nat
 |[],_,acc=>acc
 |o::l,written,acc=>
  let acc:=o.op.operands.foldl (λa x=>match x with
   |.tmp t=>if Nat.testBit written t then a else a|||bit t
   |_=>a) acc
  LO l (match o.dst with|some t=>written|||bit t|none=>written) acc
def LP:Operand->Nat
 |.tmp t=>bit t
 |_=>0
def tN:Code->Nat->Nat
 |.region _ ops _,acc=>LO ops.toList 0 acc
 |.seq a b,acc=>tN b (tN a acc)
 |.cond c a b,acc=>tN b (tN a (acc|||LP c))
 |.block _ b,acc|.loop b,acc|.scope b,acc=>tN b acc
 |.rangeFunc f ps a b,acc=>tN b (tN a (acc|||LP f|||ps.foldl (λa t=>a|||bit t) 0))
 |_,acc=>acc
def ej(fn:Func):Nat:=
 let rs:=fn.results.foldl (λa r=>match r with|.tmp t=>a|||bit t|.cell t _=>a|||bit t) 0
 match fn.body with
 |some c=>tN c rs
 |none=>rs
def pz:Nat->List ad->ba->ba
 |_,[],r=>r
 |i,v::l,r=>pz (i+1) l (r.set (h_ i) v)
def tO(P:Program)(need:Nat)(r:ba)(h:ab)(x:ResultVar):Option ad:=
 match x with
 |.tmp t=>match Nat.testBit need t with
  |true=>some (r.get (h_ t))
  |false=>none
 |.cell t ty=>match Nat.testBit need t with
  |true=>match r.get (h_ t),re P ty,ef P ty with
   |.ptr b off,some true,some n=>(match loadCells h b off n with|some cs=>some (.agg cs)|none=>none)
   |.ptr b off,some false,_=>aq h b off
   |_,_,_=>none
  |false=>none
def qk(f:ResultVar->Option ad):List ResultVar->Option (List ad)
 |[]=>some []
 |x::l=>match f x,qk f l with
  |some v,some vs=>some (v::vs)
  |_,_=>none
def ss(P:Program)(need:Nat)(fn:Func)(r:ba)(h:ab):Option ad:=
 match qk (tO P need r h) fn.results.toList with
 |some [v]=>some v
 |some vs=>some (.aR vs)
 |none=>none
def ql(c:Nat):List UInt8->Nat->Int
 |[],_=>-1
 |b::l,i=>match Nat.beq b.toNat c with
  |true=>Int.ofNat i
  |false=>ql c l (i+1)
def tP(P:Program)(fn:Func)(name:String)(args:List ad)(h:ab):Option (ad×ab):=
 match args with
 |[.int .i64 (.ofNat n)]=>if name= "internal/bytealg.MakeNoZero" then
    (match fn.resultTypes[0]? with
    |some t=>match P.underlying t with
     |some (.slice e)=>match Nat.ble n 1099511627776 with
      |true=>some (.slice h.n 0 n (.aL 1),h.push (.cells (List.replicate n .bad) e .aL 0 0))
      |false=>none
     |_=>none
    |none=>none) else none
 |[x]=>if name= "internal/abi.NoEscape" then some (x,h) else
  if name= "maps.clone" then(match x with
   |.iface t (.map r)=>match h.get r with
    |some (.map es c)=>some (.iface t (.map h.n),h.push (.map es c))
    |_=>none
   |_=>none) else none
 |[.str s,.int .u8 (.ofNat c)]=>if name= "internal/bytealg.IndexByteString" then
    (match Nat.blt c 256 with
    |true=>some (.int .i64 (ql c s 0),h)
    |false=>none) else none
 |_=>none
def xQ:Option ad->bU
 |some v=>.act v
 |none=>.none
def z6(q:bU)(fA:Option ad):Option ad:=match q with
 |.done _=>none
 |_=>fA
def oJ(P:Program)(call:ff->List ad->ab->bE)(fn:Func)(args:List ad)(q:bU)(h:ab):k5:=
 match fn.body with
 |some c=>match Nat.ble args.length fn.ntmps with
  |true=>et P (ej fn) none call c (pz 0 args .leaf) [] q h
  |false=>.fail ""
 |none=>.fail ""
def LQ(P:Program)(fn:Func)(fA:Option ad):k5->Option (Option ad×ab)
 |.ok e r d q h=>match(match e with|.nrm=>true|.ret=>true|_=>false),d,ss P (ej fn) fn r h with
  |true,[],some _=>some (z6 q fA,h)
  |_,_,_=>none
 |.fail _=>none
def kJ(P:Program)(call:ff->List ad->ab->bE)(need:Nat)(fn:Func)(r:ba):Nat->Option ad->List cb->ab->bE
 |0,_,_,_=>.fail ""
 |k+1,fA,ds,h=>match ds with
  |[]=>match fA with
   |none=>match ss P need fn r h with
    |some v=>.ret v h
    |none=>.fail ""
   |some v=>.cw v h
  |.collected b::ds=>match h.get b with
   |some (.defrd (some cs))=>kJ P call need fn r k fA (cs++ds) (h.set b (some (.defrd none)))
   |_=>.fail ""
  |.call g args::ds=>
   match P.funcs[g]? with
   |some iL=>match LQ P iL fA (oJ P call iL args (xQ fA) h) with
    |some (TN,aw)=>kJ P call need fn r k TN ds aw
    |none=>.fail ""
   |none=>.fail ""
def ry(P:Program)(call:ff->List ad->ab->bE)(fn:Func):k5->bE
 |.ok .nrm r d _ h=>kJ P call (ej fn) fn r 100 none d h
 |.ok .ret r d _ h=>kJ P call (ej fn) fn r 100 none d h
 |.ok (.cw v) r d _ h=>kJ P call (ej fn) fn r 100 (some v) d h
 |.ok _ _ _ _ _=>.fail ""
 |.fail w=>.fail (w++ " < " ++fn.name)
def su(P:Program)(call:ff->List ad->ab->bE)(f:Nat)(args:List ad)(h:ab):bE:=
 match P.funcs[f]? with
 |none=>.fail ""
 |some fn=>
  match fn.body with
  |none=>match tP P fn fn.name args h with
   |some (v,aw)=>.ret v aw
   |none=>.fail ""
  |some _=>ry P call fn (oJ P call fn args .none h)
def xR:List Nat->List ad->ba->Option ba
 |[],[],r=>some r
 |t::cF,v::vs,r=>xR cF vs (r.set (h_ t) v)
 |_,_,_=>none
def z7(l:Nat):k5->bE
 |.ok e _ [] _ h=>match h.get l with
  |some (.loop .busy _ ib rg ps as cK fy)=>match e with
   |.nrm=>.ret (.bool true) (h.set l (some (.loop .ready none ib rg ps as cK fy)))
   |.ret=>.ret (.bool false) (h.set l (some (.loop .done (some .ret) ib rg ps as cK fy)))
   |.exit id=>.ret (.bool false) (h.set l (some (.loop .done (some (.exit id)) ib rg ps as cK fy)))
   |.cw v=>.cw v h
   |.goto _=>.fail ""
  |_=>.fail ""
 |.ok .. =>.fail ""
 |.fail w=>.fail (w++ " < round")
def Gk(P:Program)(call:ff->List ad->ab->bE)(l need:Nat)(cK:Code):k5->bE
 |.ok .nrm r [] _ h=>match h.get l with
  |some (.loop .ready gX ib rg ps C_ Da fy)=>z7 l (et P need (some l) call cK r [] .none (h.set l (some (.loop .busy gX ib rg ps C_ Da fy))))
  |_=>.fail ""
 |.ok .. =>.fail ""
 |.fail w=>.fail w
def vE(P:Program)(call:ff->List ad->ab->bE)(l:Nat)(args:List ad)(h:ab):bE:=
 match h.get l with
 |some (.loop .ready _ need rg ps as cK _)=>
  match xR ps args rg with
  |none=>.fail ""
  |some gE=>Gk P call l need cK (et P need (some l) call as gE [] .none h)
 |_=>.fail ""
def fF(P:Program)(intr:Nat->List ad->ab->Option (ad×ab)):Nat->ff->List ad->ab->bE
 |0,_,_,_=>.fail ""
 |n+1,.fn f,args,h=>match intr f args h with
  |some (v,aw)=>.ret v aw
  |none=>su P (fF P intr n) f args h
 |n+1,.eb l,args,h=>vE P (fF P intr n) l args h
def tQ(n:Nat):ab:=⟨.leaf,n⟩
def nN(ops:Array Oper)(o:Oper):List Nat:=
 o.dst.toList++(o.op.operands.toList.filterMap λ|.tmp t=>some t|_=>none)++(match o.guard with|some (j,_)=>((ops[j]?).bind (·.dst)).toList|none=>[])
def qm(o:Oper)(i:Nat):Bool:=o.after.toList.all λe=>!Region.binds .any e||Nat.blt e.on i
def Db(ops:Array Oper)(s:DStep):List DStep->Bool
 |[]=>true
 |s'::l=>(match(match s.o.dst with|some t=>(nN ops s'.o).contains t|none=>false)||(match s'.o.dst with|some t=>(nN ops s.o).contains t|none=>false) with
   |true=>Nat.testBit s'.fV s.i
   |false=>true)&&Db ops s l
def sv(ops:Array Oper):List DStep->Bool
 |[]=>true
 |s::l=>qm s.o s.i&&Db ops s l&&sv ops l
def iM(b9:Nat):Code->Bool
 |.region _ ops draw=>ops.toList.all (λo=>match o.dst with|some t=>Nat.blt t b9|none=>true)&&(!draw||sv ops (f_ ops.toList 0 [] []))
 |.seq a b=>iM b9 a&&iM b9 b
 |.cond _ a b=>iM b9 a&&iM b9 b
 |.block _ b|.loop b|.scope b=>iM b9 b
 |.rangeFunc _ ps a b=>ps.toList.all (λt=>Nat.blt t b9)&&iM b9 a&&iM b9 b
 |_=>true
end bg
namespace bg
open Go
def jG.num:jG->Nat
 |.here=>0
 |.l p=>2*p.num+1
 |.r p=>2*p.num+2
theorem LR:∀(f n:Nat),n<=f->(zW f n).num=n
 |0,n,h=>by
  obtain rfl:n=0:=by omega
  rfl
 |f+1,0,_=>rfl
 |f+1,m+1,h=>by
  have e:Nat.mod m 2=m %2:=rfl
  have aE:Nat.div m 2=m/2:=rfl
  have bl:=LR f (m/2) (by omega)
  simp only[zW,e,aE]
  rcases Nat.mod_two_eq_zero_or_one m with h0|I
  · simp only[h0,jG.num,bl];omega
  · simp only[I,jG.num,bl];omega
theorem Dc(n:Nat):(h_ n).num=n:=LR n n (Nat.le_refl n)
theorem TO{m n:Nat}(h:h_ m=h_ n):m=n:=by rw[<-Dc m,<-Dc n,h]
theorem ba.tR(l:ba)(v:ad)(r:ba):ba.Gf l v r=.node l v r:=by cases l<;>rfl
theorem ba.tS(l:ba)(v:ad)(r:ba):ba.Gg l v r=.node l v r:=by cases r<;>rfl
theorem ba.pA(p:jG):ba.get p .leaf=.bad:=by cases p<;>rfl
theorem ba.z8:∀(p:jG) (v:ad) (t:ba),(ba.set p v t).get p=v
 |.here,v,.leaf=>rfl
 |.here,v,.node .. =>rfl
 |.l p,v,.leaf=>by simp only[ba.set,ba.tR,ba.get];exact z8 p v _
 |.l p,v,.node l _ _=>by simp only[ba.set,ba.tR,ba.get];exact z8 p v _
 |.r p,v,.leaf=>by simp only[ba.set,ba.tS,ba.get];exact z8 p v _
 |.r p,v,.node .. =>by simp only[ba.set,ba.tS,ba.get];exact z8 p v _
theorem ba.z9:∀(p q:jG) (v:ad) (t:ba),p≠q->(ba.set q v t).get p=t.get p
 |.here,.here,_,_,h=>absurd rfl h
 |.here,.l q,v,.leaf,_=>by simp[ba.set,ba.tR,ba.get]
 |.here,.l q,v,.node ..,_=>by simp[ba.set,ba.tR,ba.get]
 |.here,.r q,v,.leaf,_=>by simp[ba.set,ba.tS,ba.get]
 |.here,.r q,v,.node ..,_=>by simp[ba.set,ba.tS,ba.get]
 |.l p,.here,v,.leaf,_=>by simp[ba.set,ba.get,ba.pA]
 |.l p,.here,v,.node ..,_=>by simp[ba.set,ba.get]
 |.r p,.here,v,.leaf,_=>by simp[ba.set,ba.get,ba.pA]
 |.r p,.here,v,.node ..,_=>by simp[ba.set,ba.get]
 |.l p,.l q,v,.leaf,h=>by
  simp only[ba.set,ba.tR,ba.get]
  rw[z9 p q v _ (λe=>h (by rw[e])),ba.pA]
 |.l p,.l q,v,.node ..,h=>by
  simp only[ba.set,ba.tR,ba.get]
  exact z9 p q v _ (λe=>h (by rw[e]))
 |.r p,.r q,v,.leaf,h=>by
  simp only[ba.set,ba.tS,ba.get]
  rw[z9 p q v _ (λe=>h (by rw[e])),ba.pA]
 |.r p,.r q,v,.node ..,h=>by
  simp only[ba.set,ba.tS,ba.get]
  exact z9 p q v _ (λe=>h (by rw[e]))
 |.l p,.r q,v,.leaf,_=>by simp[ba.set,ba.tS,ba.get,ba.pA]
 |.l p,.r q,v,.node ..,_=>by simp[ba.set,ba.tS,ba.get]
 |.r p,.l q,v,.leaf,_=>by simp[ba.set,ba.tR,ba.get,ba.pA]
 |.r p,.l q,v,.node ..,_=>by simp[ba.set,ba.tR,ba.get]
theorem ba.dx(t u:Nat)(v:ad)(r:ba):(ba.set (h_ u) v r).get (h_ t)=if t=u then v else r.get (h_ t):=by
 by_cases h:t=u
 · subst h;simp[ba.z8]
 · rw[if_neg h];exact ba.z9 _ _ _ _ (λe=>h (TO e))
theorem fZ.pA(n:Nat):fZ.get .leaf n=none:=rfl
theorem fZ.dx:∀(f:Nat) (t:fZ) (n m:Nat) (x:Option dQ),n<f->(fZ.m9 f t n x).get m=if m=n then x else t.get m
 |0,_,n,_,_,h=>by omega
 |f+1,.leaf,0,m,x,_=>by
  cases m with
  |zero=>simp[fZ.m9,fZ.get]
  |succ m=>
   simp only[fZ.m9,fZ.get]
   have e:Nat.mod m 2=m %2:=rfl
   rcases Nat.mod_two_eq_zero_or_one m with h|h<;>simp[e,h]
 |f+1,.node l v r,0,m,x,_=>by
  cases m with
  |zero=>simp[fZ.m9,fZ.get]
  |succ m=>simp[fZ.m9,fZ.get]
 |f+1,.leaf,n+1,m,x,aH=>by
  have e (k:Nat):Nat.mod k 2=k %2:=rfl
  have aE (k:Nat):Nat.div k 2=k/2:=rfl
  have bl:=λj=>dx f .leaf (n/2) j x (by omega)
  rcases Nat.mod_two_eq_zero_or_one n with h|h
  · simp only[fZ.m9,e,h,aE]
    cases m with
    |zero=>simp[fZ.get]
    |succ m=>
     simp only[fZ.get,e,aE]
     rcases Nat.mod_two_eq_zero_or_one m with g|g
     · simp only[g,bl,fZ.pA]
       have:(m/2=n/2)<->(m+1=n+1):=by omega
       simp only[this]
     · simp only[g,fZ.pA]
       rw[if_neg (by omega)]
  · simp only[fZ.m9,e,h,aE]
    cases m with
    |zero=>simp[fZ.get]
    |succ m=>
     simp only[fZ.get,e,aE]
     rcases Nat.mod_two_eq_zero_or_one m with g|g
     · simp only[g,fZ.pA]
       rw[if_neg (by omega)]
     · simp only[g,bl,fZ.pA]
       have:(m/2=n/2)<->(m+1=n+1):=by omega
       simp only[this]
 |f+1,.node l v r,n+1,m,x,aH=>by
  have e (k:Nat):Nat.mod k 2=k %2:=rfl
  have aE (k:Nat):Nat.div k 2=k/2:=rfl
  have TP:=λj=>dx f l (n/2) j x (by omega)
  have Dd:=λj=>dx f r (n/2) j x (by omega)
  rcases Nat.mod_two_eq_zero_or_one n with h|h
  · simp only[fZ.m9,e,h,aE]
    cases m with
    |zero=>simp[fZ.get]
    |succ m=>
     simp only[fZ.get,e,aE]
     rcases Nat.mod_two_eq_zero_or_one m with g|g
     · simp only[g,TP]
       have:(m/2=n/2)<->(m+1=n+1):=by omega
       simp only[this]
     · simp only[g]
       rw[if_neg (by omega)]
  · simp only[fZ.m9,e,h,aE]
    cases m with
    |zero=>simp[fZ.get]
    |succ m=>
     simp only[fZ.get,e,aE]
     rcases Nat.mod_two_eq_zero_or_one m with g|g
     · simp only[g]
       rw[if_neg (by omega)]
     · simp only[g,Dd]
       have:(m/2=n/2)<->(m+1=n+1):=by omega
       simp only[this]
theorem ab.dx(h:ab)(b c:Nat)(o:Option dQ):(h.set b o).get c=if c=b then o else h.get c:=
 fZ.dx _ _ _ _ _ (Nat.lt_succ_self b)
theorem ab.hr(h:ab)(c:Nat)(o:dQ):(h.push o).get c=if c=h.n then some o else h.get c:=
 fZ.dx _ _ _ _ _ (Nat.lt_succ_self _)
@[simp] theorem ab.xS (h:ab) (b:Nat) (o:Option dQ):(h.set b o).n=h.n:=rfl
@[simp] theorem ab.tT (h:ab) (o:dQ):(h.push o).n=h.n+1:=rfl
structure fO where
 bx:Nat
 base:Nat
 size:Nat
abbrev bI:=Nat->Option fO
def ga(μ a9:bI):Prop:=∀b i,μ b=some i->a9 b=some i
theorem ga.refl(μ:bI):ga μ μ:=λ_ _ h=>h
theorem ga.trans{μ a9 LS:bI}(h:ga μ a9)(aw:ga a9 LS):ga μ LS:=λb i e=>aw b i (h b i e)
def Gl(i:fO)(off len:Nat):ct->Value->Prop
 |.exact c,v=>v=.slice (some ⟨i.bx,i.base+off,none⟩) len c
 |.aL hK,v=>∃c,v=.slice (some ⟨i.bx,i.base+off,none⟩) len c/\len<=c/\off+c*hK=i.size
 |.dead,v=>len=0/\∃a c,v=.slice (some a) 0 c
mutual
def bz(μ:bI):ad->Value->Prop
 |.bad,_=>True
 |.bool b,v=>v=.bool b
 |.int k n,v=>v=.int k n
 |.str s,v=>∃t,v=.string t/\t.data.toList=s
 |.aX,v=>v=.pointer none
 |.ptr b off,v=>∃i,μ b=some i/\v=.pointer (some ⟨i.bx,i.base+off,none⟩)
 |.aP,v=>v=.slice none 0 0
 |.slice b off len cap,v=>∃i,μ b=some i/\Gl i off len cap v
 |.jw,v=>v=.map none
 |.map r,v=>∃i,μ r=some i/\v=.map (some i.bx)
 |.gW,v=>v=.nilFunc
 |.fn f first a_,v=>∃b6 cs,v=.func (.func f) ⟨b6⟩ ⟨cs⟩/\cG μ first b6/\cG μ a_ cs
 |.eb l,v=>∃i,μ l=some i/\v=.func (.yield i.bx) ⟨[]⟩ ⟨[]⟩
 |.fU,v=>v=.nilIface
 |.iface t x,v=>∃y,v=.iface t y/\bz μ x y
 |.agg cs,v=>∃l,v=.agg ⟨l⟩/\cG μ cs l
 |.aR vs,v=>∃l,v=.tuple ⟨l⟩/\cG μ vs l
def cG(μ:bI):List ad->List Value->Prop
 |[],l=>l=[]
 |a::as,l=>∃v vs,l=v::vs/\bz μ a v/\cG μ as vs
end
mutual
theorem bz.mono{μ a9:bI}(hle:ga μ a9):∀(a:ad) (v:Value),bz μ a v->bz a9 a v
 |.bad,_,_=>trivial
 |.bool _,_,h=>h
 |.int _ _,_,h=>h
 |.str _,_,h=>h
 |.aX,_,h=>h
 |.ptr b off,_,⟨i,h,e⟩=>⟨i,hle _ _ h,e⟩
 |.aP,_,h=>h
 |.slice b off len cap,_,⟨i,h,e⟩=>⟨i,hle _ _ h,e⟩
 |.jw,_,h=>h
 |.map r,_,⟨i,h,e⟩=>⟨i,hle _ _ h,e⟩
 |.gW,_,h=>h
 |.fn f first a_,_,⟨b6,cs,e,I,ae⟩=>⟨b6,cs,e,cG.mono hle _ _ I,cG.mono hle _ _ ae⟩
 |.eb l,_,⟨i,h,e⟩=>⟨i,hle _ _ h,e⟩
 |.fU,_,h=>h
 |.iface t x,_,⟨y,e,h⟩=>⟨y,e,bz.mono hle _ _ h⟩
 |.agg cs,_,⟨l,e,h⟩=>⟨l,e,cG.mono hle _ _ h⟩
 |.aR cs,_,⟨l,e,h⟩=>⟨l,e,cG.mono hle _ _ h⟩
theorem cG.mono{μ a9:bI}(hle:ga μ a9):∀(as:List ad) (vs:List Value),cG μ as vs->cG a9 as vs
 |[],_,h=>h
 |a::as,_,⟨v,vs,e,I,ae⟩=>⟨v,vs,e,bz.mono hle _ _ I,cG.mono hle _ _ ae⟩
end
mutual
theorem lO(μ:bI):∀v:Value,bz μ (qh v) v
 |.bool b=>rfl
 |.int k n=>rfl
 |.string s=>⟨s,rfl,rfl⟩
 |.pointer none=>rfl
 |.pointer (some _)=>trivial
 |.slice none 0 0=>rfl
 |.slice none 0 (_+1)=>trivial
 |.slice none (_+1) _=>trivial
 |.slice (some _) _ _=>trivial
 |.map none=>rfl
 |.map (some _)=>trivial
 |.nilFunc=>rfl
 |.nilIface=>rfl
 |.agg ⟨cs⟩=>⟨cs,rfl,Gm μ cs⟩
 |.tuple ⟨cs⟩=>⟨cs,rfl,Gm μ cs⟩
 |.float _ _=>trivial
 |.complex _ _ _=>trivial
 |.chan _=>trivial
 |.func _ _ _=>trivial
 |.iface _ _=>trivial
theorem Gm(μ:bI):∀vs:List Value,cG μ (C4 vs) vs
 |[]=>rfl
 |v::vs=>⟨v,vs,rfl,lO μ v,Gm μ vs⟩
end
theorem cG.length{μ:bI}:∀{as:List ad} {vs:List Value},cG μ as vs->as.length=vs.length
 |[],_,h=>by cases h;rfl
 |a::as,_,⟨v,vs,e,_,ae⟩=>by subst e;simp[cG.length ae]
theorem cG.append{μ:bI}:∀{as bs:List ad} {vs us:List Value},cG μ as vs->cG μ bs us->cG μ (as++bs) (vs++us)
 |[],_,_,_,h,aw=>by cases h;exact aw
 |a::as,_,_,_,⟨v,vs,e,I,ae⟩,aw=>by subst e;exact⟨v,vs++_,rfl,I,cG.append ae aw⟩
theorem cG.get{μ:bI}:∀{as:List ad} {vs:List Value} (_:cG μ as vs) {j:Nat} {a:ad},as[j]? =some a->∃v,vs[j]? =some v/\bz μ a v
 |[],_,_,j,a,h=>by simp at h
 |x::as,_,⟨v,vs,e,I,ae⟩,0,a,h=>by
  subst e;simp at h;subst h;exact⟨v,rfl,I⟩
 |x::as,_,⟨v,vs,e,I,ae⟩,j+1,a,h=>by
  subst e;simp at h;simpa using cG.get ae h
theorem cG.z_{μ:bI}:∀{as:List ad} {vs:List Value},as.length=vs.length->(∀(j:Nat) (a:ad),as[j]? =some a->∃v,vs[j]? =some v/\bz μ a v)->cG μ as vs
 |[],[],_,_=>rfl
 |[],_::_,h,_=>by simp at h
 |_::_,[],h,_=>by simp at h
 |a::as,v::vs,h,au=>by
  refine⟨v,vs,rfl,?_,cG.z_ (by simpa using h) λj x aa=>?_⟩
  · obtain⟨u,hu,r⟩:=au 0 a rfl
    simp at hu;subst hu;exact r
  · simpa using au (j+1) x (by simpa using aa)
theorem cG.map{μ:bI}{vF:Type}(g:vF->ad)(cP:vF->Value)(h:∀x,bz μ (g x) (cP x)):∀l:List vF,cG μ (l.map g) (l.map cP)
 |[]=>rfl
 |x::l=>⟨_,_,rfl,h x,cG.map g cP h l⟩
theorem bz.cells{μ:bI}{a:ad}{v:Value}(h:bz μ a v)(ag:a≠ .bad):cG μ a.cells v.cells.toList:=by
 cases a with
 |bad=>exact absurd rfl ag
 |agg cs=>obtain⟨l,rfl,aA⟩:=h;exact aA
 |aR vs=>obtain⟨l,rfl,aA⟩:=h;exact⟨_,_,rfl,⟨l,rfl,aA⟩,rfl⟩
 |bool b=>cases h;exact⟨_,_,rfl,rfl,rfl⟩
 |int k n=>cases h;exact⟨_,_,rfl,rfl,rfl⟩
 |str s=>obtain⟨t,rfl,e⟩:=h;exact⟨_,_,rfl,⟨t,rfl,e⟩,rfl⟩
 |aX=>cases h;exact⟨_,_,rfl,rfl,rfl⟩
 |ptr b off=>obtain⟨i,e,rfl⟩:=h;exact⟨_,_,rfl,⟨i,e,rfl⟩,rfl⟩
 |aP=>cases h;exact⟨_,_,rfl,rfl,rfl⟩
 |slice b off len cap=>
  obtain⟨i,e,ah⟩:=h
  have:v.cells=#[v]:=by
   cases cap with
   |exact c=>cases ah;rfl
   |aL hK=>obtain⟨c,rfl,_⟩:=ah;rfl
   |dead=>obtain⟨_,a,c,rfl⟩:=ah;rfl
  rw[this];exact⟨_,_,rfl,⟨i,e,ah⟩,rfl⟩
 |jw=>cases h;exact⟨_,_,rfl,rfl,rfl⟩
 |map r=>obtain⟨i,e,rfl⟩:=h;exact⟨_,_,rfl,⟨i,e,rfl⟩,rfl⟩
 |gW=>cases h;exact⟨_,_,rfl,rfl,rfl⟩
 |fn f a b=>obtain⟨b6,cs,rfl,I,ae⟩:=h;exact⟨_,_,rfl,⟨b6,cs,rfl,I,ae⟩,rfl⟩
 |eb l=>obtain⟨i,e,rfl⟩:=h;exact⟨_,_,rfl,⟨i,e,rfl⟩,rfl⟩
 |fU=>cases h;exact⟨_,_,rfl,rfl,rfl⟩
 |iface t x=>obtain⟨y,rfl,aZ⟩:=h;exact⟨_,_,rfl,⟨y,rfl,aZ⟩,rfl⟩
theorem bz.Aa{μ:bI}{a:ad}{v:Value}(h:bz μ a v)(ah:a.de=true):v.oneCell'=true:=by
 cases a with
 |bad=>simp[ad.de] at ah
 |agg cs=>simp[ad.de] at ah
 |aR vs=>simp[ad.de] at ah
 |bool b=>cases h;rfl
 |int k n=>cases h;rfl
 |str s=>obtain⟨t,rfl,e⟩:=h;rfl
 |aX=>cases h;rfl
 |ptr b off=>obtain⟨i,e,rfl⟩:=h;rfl
 |aP=>cases h;rfl
 |slice b off len cap=>
  obtain⟨i,e,ah⟩:=h
  cases cap with
  |exact c=>cases ah;rfl
  |aL hK=>obtain⟨c,rfl,_⟩:=ah;rfl
  |dead=>obtain⟨_,a,c,rfl⟩:=ah;rfl
 |jw=>cases h;rfl
 |map r=>obtain⟨i,e,rfl⟩:=h;rfl
 |gW=>cases h;rfl
 |fn f a b=>obtain⟨b6,cs,rfl,I,ae⟩:=h;rfl
 |eb l=>obtain⟨i,e,rfl⟩:=h;rfl
 |fU=>cases h;rfl
 |iface t x=>obtain⟨y,rfl,aZ⟩:=h;rfl
def j6(need:Nat)(μ:bI)(r:ba)(cH:Array Value):Prop:=∀t,Nat.testBit need t=true->bz μ (r.get (h_ t)) (cH.getD t undef)
theorem j6.mono{need:Nat}{μ a9:bI}{r:ba}{cH:Array Value}(hle:ga μ a9)(h:j6 need μ r cH):j6 need a9 r cH:=λt bm=>(h t bm).mono hle
inductive vG(μ:bI):cb->Deferred->Prop where
 |call (f:Nat) (args:List ad) (cap vs:List Value) (h:cG μ args (vs++cap)):vG μ (.call f args) {target:=.fn (.func f) ⟨cap⟩,args:=⟨vs⟩}
 |collected (r:Nat) (i:fO) (h:μ r=some i):vG μ (.collected r) {target:=.collected i.bx,args:=#[]}
theorem vG.mono{μ a9:bI}(hle:ga μ a9){a:cb}{d:Deferred}(h:vG μ a d):vG a9 a d:=by
 cases h with
 |call f args cap vs h=>exact .call f args cap vs (h.mono hle)
 |collected r i h=>exact .collected r i (hle _ _ h)
def hs(μ:bI):List cb->List Deferred->Prop
 |[],l=>l=[]
 |a::as,l=>∃d ds,l=d::ds/\vG μ a d/\hs μ as ds
theorem hs.mono{μ a9:bI}(hle:ga μ a9):∀{as:List cb} {ds:List Deferred},hs μ as ds->hs a9 as ds
 |[],_,h=>h
 |_::_,_,⟨d,ds,e,I,ae⟩=>⟨d,ds,e,I.mono hle,hs.mono hle ae⟩
theorem hs.append{μ:bI}:∀{as bs:List cb} {ds es:List Deferred},hs μ as ds->hs μ bs es->hs μ (as++bs) (ds++es)
 |[],_,_,_,h,aw=>by cases h;exact aw
 |_::_,_,_,_,⟨d,ds,e,I,ae⟩,aw=>by subst e;exact⟨d,ds++_,rfl,I,hs.append ae aw⟩
def tU(μ:bI)(e:eH)(m:MapEntry):Prop:=bz μ e.key m.key/\bz μ e.val m.val/\e.born=m.born
def g0(μ:bI):List eH->List MapEntry->Prop
 |[],l=>l=[]
 |e::es,l=>∃m ms,l=m::ms/\tU μ e m/\g0 μ es ms
theorem tU.mono{μ a9:bI}(hle:ga μ a9){e:eH}{m:MapEntry}(h:tU μ e m):tU a9 e m:=⟨h.1.mono hle,h.2.1.mono hle,h.2.2⟩
theorem g0.mono{μ a9:bI}(hle:ga μ a9):∀{es:List eH} {ms:List MapEntry},g0 μ es ms->g0 a9 es ms
 |[],_,h=>h
 |_::_,_,⟨m,ms,e,I,ae⟩=>⟨m,ms,e,I.mono hle,g0.mono hle ae⟩
def De(μ:bI)(cs:List ad)(c:Array Value)(base:Nat):Prop:=∀(j:Nat) (v:ad),cs[j]? =some v->∃u,c[base+j]? =some u/\bz μ v u
def LU(k:hb)(cs:List ad)(i:fO)(lo hi ht hv:Nat):Prop:=match k with
 |.own=>i.base=0/\i.size=cs.length/\ht=lo/\hv=hi
 |.aL=>cs.length<=i.size/\∀j,j<i.size->ht<=i.base+j->i.base+j<hv->lo<=j/\j<hi
 |.ro=>True
 |.fz=>True
def rz(μ:bI)(o:dQ)(i:fO)(w:World):Prop:=match o with
 |.cells cs el k lo hi=>∃c ht hv,w.heap[i.bx]? =some (.cells c el (ht,hv))/\De μ cs c i.base/\i.base+i.size=c.size/\LU k cs i lo hi ht hv
 |.map es clock=>∃ents,w.heap[i.bx]? =some (.map ⟨ents⟩ clock)/\g0 μ es ents
 |.tJ s pos=>i.base=0/\∃full,w.heap[i.bx]? =some (.stringIter full pos)/\full.data.toList.drop pos=s
 |.mapIter none since seen last=>i.base=0/\w.heap[i.bx]? =some (.mapIter none since ⟨seen⟩ last)
 |.mapIter (some m) since seen last=>i.base=0/\∃j,μ m=some j/\w.heap[i.bx]? =some (.mapIter (some j.bx) since ⟨seen⟩ last)
 |.loop st gX need oG params as cK fy=>∃cH i_ fn,μ fy=some i_/\w.heap[i.bx]? =some (.loop {state:=st,pending:=gX,fn:=fn,tmps:=cH,params:=⟨params⟩,assign:=as,body:=cK,defers:=i_.bx})/\j6 need μ oG cH/\iM cH.size as=true/\iM cH.size cK=true/\∀t∈params,t<cH.size
 |.defrd none=>w.heap[i.bx]? =some (.deferred none)
 |.defrd (some ds)=>∃l,w.heap[i.bx]? =some (.deferred (some l))/\hs μ ds l
 |.raw o=>i.base=0/\w.heap[i.bx]? =some o
theorem rz.mono{μ a9:bI}(hle:ga μ a9){o:dQ}{i:fO}{w w':World}(hw:w'.heap[i.bx]? =w.heap[i.bx]?)(h:rz μ o i w):rz a9 o i w':=by
 cases o with
 |cells cs el k lo hi=>
  obtain⟨c,ht,hv,I,ae,ax⟩:=h
  exact⟨c,ht,hv,hw.trans I,λj v e=>let⟨u,hu,r⟩:=ae j v e;⟨u,hu,r.mono hle⟩,ax⟩
 |map es clock=>obtain⟨ents,I,ae⟩:=h;exact⟨ents,hw.trans I,ae.mono hle⟩
 |tJ s pos=>obtain⟨h0,full,I,ae⟩:=h;exact⟨h0,full,hw.trans I,ae⟩
 |mapIter m since seen last=>
  cases m with
  |none=>exact⟨h.1,hw.trans h.2⟩
  |some m=>obtain⟨h0,j,I,ae⟩:=h;exact⟨h0,j,hle _ _ I,hw.trans ae⟩
 |loop st gX fn oG params as cK fy=>obtain⟨cH,i_,Gn,I,ae,ax,aN⟩:=h;exact⟨cH,i_,Gn,hle _ _ I,hw.trans ae,ax.mono hle,aN⟩
 |defrd calls=>
  cases calls with
  |none=>exact hw.trans h
  |some ds=>obtain⟨l,I,ae⟩:=h;exact⟨l,hw.trans I,ae.mono hle⟩
 |raw o=>exact⟨h.1,hw.trans h.2⟩
def dQ.rA:dQ->Bool
 |.cells _ _ .ro _ _=>true
 |.raw _=>true
 |_=>false
structure bK(μ:bI)(H:ab)(w:World):Prop where
 rel:∀b o i,H.get b=some o->μ b=some i->rz μ o i w
 inj:∀b c i j,H.get b≠none->(∃o,H.get c=some o/\o.rA=false)->μ b=some i->μ c=some j->i.bx=j.bx->b=c
 lt:∀b i,μ b=some i->b<H.n/\i.bx<w.heap.size
 bound:∀b,H.n<=b->H.get b=none
structure cA(μ:bI)(H:ab)(w:World)(a9:bI)(a6:ab)(w':World):Prop where
 le:ga μ a9
 size:w.heap.size<=w'.heap.size
 n:H.n<=a6.n
 live:∀b,b<H.n->a6.get b≠none->H.get b≠none
 idle:∀b,b<H.n->μ b=none->a6.get b=H.get b
 old:∀r,r<w.heap.size->(∀b i,H.get b≠none->μ b=some i->i.bx≠r)->w'.heap[r]? =w.heap[r]?
 new:∀b i,μ b=none->a9 b=some i->H.n<=b/\(w.heap.size<=i.bx\/∃c o j,H.get c=some o/\o.rA=false/\μ c=some j/\j.bx=i.bx)
 ro:∀b o i,H.get b=some o->o.rA=true->μ b=some i->a6.get b=some o/\w'.heap[i.bx]? =w.heap[i.bx]?
 os:w'.os=w.os
 out:w'.output=w.output
 tape:w'.tape=w.tape
 drawn:w.drawn<=w'.drawn
theorem cA.refl(μ:bI)(H:ab)(w:World):cA μ H w μ H w where
 le:=ga.refl μ
 size:=Nat.le_refl _
 n:=Nat.le_refl _
 live:=λ_ _ h=>h
 idle:=λ_ _ _=>rfl
 old:=λ_ _ _=>rfl
 new:=λb i h aw=>by rw[h] at aw;cases aw
 ro:=λ_ _ _ h _ _=>⟨h,rfl⟩
 os:=rfl
 out:=rfl
 tape:=rfl
 drawn:=Nat.le_refl _
theorem cA.trans{μ ja xU:bI}{H H1 bh:ab}{w df db:World}(au:bK μ H w)(kr:bK ja H1 df)(h:cA μ H w ja H1 df)(aw:cA ja H1 df xU bh db):cA μ H w xU bh db where
 le:=h.le.trans aw.le
 size:=Nat.le_trans h.size aw.size
 n:=Nat.le_trans h.n aw.n
 live:=λb ag aA=>h.live b ag (aw.live b (Nat.lt_of_lt_of_le ag h.n) aA)
 idle:=λb ag hm=>by
  rw[<-h.idle b ag hm]
  refine aw.idle b (Nat.lt_of_lt_of_le ag h.n) ?_
  cases I:ja b with
  |none=>rfl
  |some i=>exact absurd (h.new b i hm I).1 (Nat.not_le.2 ag)
 old:=λr ao aH=>by
  rw[aw.old r (Nat.lt_of_lt_of_le ao h.size),h.old r ao aH]
  intro b i aA hm he
  cases Df:μ b with
  |some j=>
   have:=h.le b j Df
   rw[hm] at this;cases this
   exact aH b i (h.live b (au.lt b i Df).1 aA) Df he
  |none=>
   obtain⟨_,hi|⟨c,o,j,ah,_,aO,mJ⟩⟩:=h.new b i Df hm
   · omega
   · exact aH c j (by rw[ah];simp) aO (mJ.trans he)
 new:=λb i ag fh=>by
  cases I:ja b with
  |some j=>
   have:=aw.le b j I
   rw[fh] at this;cases this
   exact h.new b i ag I
  |none=>
   obtain⟨aH,hi|⟨c,o,j,ah,gn,aO,mJ⟩⟩:=aw.new b i I fh
   · exact⟨Nat.le_trans h.n aH,.inl (Nat.le_trans h.size hi)⟩
   · refine⟨Nat.le_trans h.n aH,?_⟩
     cases h0:μ c with
     |some j7=>
      have:=h.le c j7 h0
      rw[aO] at this;cases this
      have xV:H.get c≠none:=h.live c (au.lt c j h0).1 (by rw[ah];simp)
      cases ar:H.get c with
      |none=>exact absurd ar xV
      |some Ab=>
       cases Dg:Ab.rA with
       |false=>exact .inr ⟨c,Ab,j,ar,Dg,h0,mJ⟩
       |true=>
        have:=(h.ro c Ab j ar Dg h0).1
        rw[ah] at this;cases this
        rw[gn] at Dg;cases Dg
     |none=>
      obtain⟨_,hi|⟨c',o',j7,qn,TQ,hx,TR⟩⟩:=h.new c j h0 aO
      · exact .inl (mJ▸hi)
      · exact .inr ⟨c',o',j7,qn,TQ,hx,TR.trans mJ⟩
 ro:=λb o i ag ao hi=>by
  obtain⟨I,ae⟩:=h.ro b o i ag ao hi
  obtain⟨ax,aN⟩:=aw.ro b o i I ao (h.le b i hi)
  exact⟨ax,aN.trans ae⟩
 os:=aw.os.trans h.os
 out:=aw.out.trans h.out
 tape:=aw.tape.trans h.tape
 drawn:=Nat.le_trans h.drawn aw.drawn
theorem bK.of_heap{μ:bI}{H:ab}{w w':World}(h:bK μ H w)(he:w'.heap=w.heap):bK μ H w' where
 rel:=λb o i ag hi=>(h.rel b o i ag hi).mono (ga.refl μ) (by rw[he])
 inj:=h.inj
 lt:=λb i hi=>by rw[he];exact h.lt b i hi
 bound:=h.bound
theorem cA.of_heap{μ:bI}{H:ab}{w w':World}(he:w'.heap=w.heap)(bc:w'.os=w.os)(a0:w'.output=w.output)(bm:w'.tape=w.tape)(ai:w.drawn<=w'.drawn:=by first|exact Nat.le_refl _|exact Nat.le_succ _|assumption):cA μ H w μ H w' where
 le:=ga.refl μ
 size:=by rw[he];exact Nat.le_refl _
 n:=Nat.le_refl _
 live:=λ_ _ h=>h
 idle:=λ_ _ _=>rfl
 old:=λ_ _ _=>by rw[he]
 new:=λb i h aw=>by rw[h] at aw;cases aw
 ro:=λ_ _ _ h _ _=>⟨h,by rw[he]⟩
 os:=bc
 out:=a0
 tape:=bm
 drawn:=ai
def gx(μ:bI)(b:Nat)(i:fO):bI:=λc=>if c=b then some i else μ c
theorem hy(μ:bI)(b:Nat)(i:fO):gx μ b i b=some i:=by simp[gx]
theorem iy(μ:bI){b c:Nat}(i:fO)(h:c≠b):gx μ b i c=μ c:=by simp[gx,h]
theorem bK.fresh{μ:bI}{H:ab}{w:World}(h:bK μ H w):μ H.n=none:=by
 cases e:μ H.n with
 |none=>rfl
 |some i=>exact absurd (h.lt _ _ e).1 (Nat.lt_irrefl _)
theorem bK.qo{μ:bI}{H:ab}{w:World}(h:bK μ H w)(i:fO):ga μ (gx μ H.n i):=λb j e=>by
 rw[iy];exact e
 intro ag;subst ag;rw[h.fresh] at e;cases e
theorem bK.alloc{μ:bI}{H:ab}{w:World}(h:bK μ H w)(o:dQ)(x:Obj)(sz:Nat)
  (ao:rz (gx μ H.n ⟨w.heap.size,0,sz⟩) o ⟨w.heap.size,0,sz⟩ (w.alloc x)):
  bK (gx μ H.n ⟨w.heap.size,0,sz⟩) (H.push o) (w.alloc x)/\cA μ H w (gx μ H.n ⟨w.heap.size,0,sz⟩) (H.push o) (w.alloc x):=by
 have hle:=h.qo ⟨w.heap.size,0,sz⟩
 have hold:∀r,r<w.heap.size->(w.alloc x).heap[r]? =w.heap[r]? :=λr ao=>by
  simp only[World.alloc,Array.getElem?_push];rw[if_neg (by omega)]
 constructor
 · refine⟨λb ob i ag hi=>?_,λb c i j ag ah hi aO e=>?_,λb i hi=>?_,λb ag=>?_⟩
   · rw[ab.hr] at ag
     by_cases e:b=H.n
     · rw[if_pos e] at ag;subst e;cases ag
       rw[hy] at hi;cases hi
       exact ao
     · rw[if_neg e] at ag;rw[iy _ _ e] at hi
       exact(h.rel b ob i ag hi).mono hle (hold _ (h.lt b i hi).2)
   · by_cases aG:b=H.n
     · by_cases aE:c=H.n
       · rw[aG,aE]
       · subst aG;rw[hy] at hi;cases hi
         rw[iy _ _ aE] at aO
         have:=(h.lt c j aO).2
         simp only at e;omega
     · by_cases aE:c=H.n
       · subst aE;rw[hy] at aO;cases aO
         rw[iy _ _ aG] at hi
         have:=(h.lt b i hi).2
         simp only at e;omega
       · rw[iy _ _ aG] at hi;rw[iy _ _ aE] at aO
         rw[ab.hr,if_neg aG] at ag
         rw[ab.hr,if_neg aE] at ah
         exact h.inj b c i j ag ah hi aO e
   · by_cases e:b=H.n
     · subst e;rw[hy] at hi;cases hi;simp
     · rw[iy _ _ e] at hi
       have:=h.lt b i hi
       simp only[ab.tT,World.size_alloc];omega
   · simp only[ab.tT] at ag
     rw[ab.hr,if_neg (by omega)];exact h.bound b (by omega)
 · refine⟨hle,by simp,by simp,λb ag aA=>?_,λb ag _=>(by rw[ab.hr,if_neg (by omega)]),λr ao _=>hold r ao,λb i ag fh=>?_,λb ob i ag _ hi=>?_,rfl,rfl,rfl,Nat.le_refl _⟩
   · rw[ab.hr,if_neg (by omega)] at aA;exact aA
   · by_cases e:b=H.n
     · subst e;rw[hy] at fh;cases fh;exact⟨Nat.le_refl _,.inl (Nat.le_refl _)⟩
     · rw[iy _ _ e,ag] at fh;cases fh
   · have:=h.lt b i hi
     rw[ab.hr,if_neg (by omega)]
     exact⟨ag,hold _ this.2⟩
theorem bK.update{μ:bI}{H:ab}{w w':World}(h:bK μ H w){b:Nat}{o o':dQ}{i:fO}(ag:H.get b=some o)(gn:o.rA=false)(hi:μ b=some i)
  (al:w'.heap.size=w.heap.size)(bc:∀r,r≠i.bx->w'.heap[r]? =w.heap[r]?)(Ac:w'.os=w.os)(Gp:w'.output=w.output)(Gq:w'.tape=w.tape)(ao:rz μ o' i w')(hdr:w.drawn<=w'.drawn:=by first|exact Nat.le_refl _|assumption):
  bK μ (H.set b (some o')) w'/\cA μ H w μ (H.set b (some o')) w':=by
 have xV:H.get b≠none:=by rw[ag];simp
 have sw:∀c,(H.set b (some o')).get c≠none->H.get c≠none:=λc ah=>by
  rw[ab.dx] at ah
  by_cases e:c=b
  · subst e;exact xV
  · rw[if_neg e] at ah;exact ah
 constructor
 · refine⟨λc hc j ah aO=>?_,λc d j k ah ai=>h.inj c d j k (sw c ah) (by
     obtain⟨x,aa,rB⟩:=ai
     rw[ab.dx] at aa
     by_cases e:d=b
     · subst e;exact⟨o,ag,gn⟩
     · rw[if_neg e] at aa;exact⟨x,aa,rB⟩),λc j aO=>by rw[al];exact h.lt c j aO,λc ah=>?_⟩
   · rw[ab.dx] at ah
     by_cases e:c=b
     · subst e;rw[if_pos rfl] at ah;cases ah
       rw[hi] at aO;cases aO;exact ao
     · rw[if_neg e] at ah
       refine(h.rel c hc j ah aO).mono (ga.refl μ) (bc _ λdc=>e (h.inj c b j i (by rw[ah];simp) ⟨o,ag,gn⟩ aO hi dc))
   · rw[ab.dx,if_neg]
     · exact h.bound c ah
     · intro e;subst e;have:=(h.lt c i hi).1;simp at ah;omega
 · refine⟨ga.refl μ,by omega,by simp,λc _ ah=>sw c ah,λc _ hm=>(by rw[ab.dx,if_neg];intro e;subst e;rw[hi] at hm;cases hm),λr ao aH=>bc r λe=>aH b i xV hi e.symm,λc j I ae=>(by rw[I] at ae;cases ae),λc hc j ah tV aO=>?_,Ac,Gp,Gq,hdr⟩
   have dr:c≠b:=by intro e;subst e;rw[ag] at ah;cases ah;rw[gn] at tV;cases tV
   refine⟨by rw[ab.dx,if_neg dr];exact ah,bc _ λe=>dr (h.inj c b j i (by rw[ah];simp) ⟨o,ag,gn⟩ aO hi e)⟩
end bg
namespace bg
open Go
theorem add_plain(b o n:Nat):(⟨b,o,none⟩:Addr).add n=⟨b,o+n,none⟩:=by
 unfold Addr.add
 by_cases h:n=0
 · simp[h]
 · simp[h]
theorem sx{α:Type}:∀(n:Nat) (l:List α),nth n l=l[n]?
 |0,[]=>rfl
 |_+1,[]=>rfl
 |0,_::_=>rfl
 |n+1,_::l=>by simpa[nth] using sx n l
theorem pB{α:Type}:∀(n:Nat) (l:List α),j4 n l=l.drop n
 |0,l=>by simp[j4]
 |_+1,[]=>by simp[j4]
 |n+1,_::l=>by simpa[j4] using pB n l
theorem vH:∀(n:Nat) (l r:List ad),takeN n l=some r->n<=l.length/\r=l.take n
 |0,l,r,h=>by simp[takeN] at h;subst h;simp
 |_+1,[],r,h=>by simp[takeN] at h
 |n+1,a::l,r,h=>by
  simp only[takeN] at h
  cases e:takeN n l with
  |none=>simp[e] at h
  |some r'=>
   simp[e] at h;subst h
   obtain⟨I,ae⟩:=vH n l r' e
   simp[ae];omega
theorem Dh:∀(n:Nat) (vs cs r:List ad),gD n vs cs=some r->
  r.length=cs.length/\(vs≠[]->n+vs.length<=cs.length)/\(∀v∈vs,v.de=true)/\∀j,r[j]? =if n<=j/\j<n+vs.length then vs[j-n]? else cs[j]?
 |0,[],cs,r,h=>by
  simp[gD] at h;subst h
  refine⟨rfl,λh=>absurd rfl h,λv aI=>(by cases aI),λj=>by rw[if_neg (by simp)]⟩
 |0,_::_,[],r,h=>by simp[gD] at h
 |0,v::vs,c::cs,r,h=>by
  simp only[gD] at h
  cases ah:v.de with
  |false=>simp[ah] at h
  |true=>
   simp only[ah] at h
   cases e:gD 0 vs cs with
   |none=>simp[e] at h
   |some r'=>
    simp[e] at h;subst h
    obtain⟨I,ae,ax,aN⟩:=Dh 0 vs cs r' e
    refine⟨by simp[I],λ_=>?_,λx aa=>?_,λj=>?_⟩
    · cases vs with
      |nil=>simp
      |cons a l=>have:=ae (by simp);simp at this⊢;omega
    · cases aa with
      |head=>exact ah
      |tail _ aa=>exact ax x aa
    · cases j with
      |zero=>simp
      |succ j=>simpa using aN j
 |n+1,[],cs,r,h=>by
  simp[gD] at h;subst h
  refine⟨rfl,λh=>absurd rfl h,λv aI=>(by cases aI),λj=>by rw[if_neg (by simp)]⟩
 |n+1,_::_,[],r,h=>by simp[gD] at h
 |n+1,v::vs,c::cs,r,h=>by
  simp only[gD] at h
  cases e:gD n (v::vs) cs with
  |none=>simp[e] at h
  |some r'=>
   simp[e] at h;subst h
   obtain⟨I,ae,ax,aN⟩:=Dh n (v::vs) cs r' e
   refine⟨by simp[I],λ_=>?_,ax,λj=>?_⟩
   · have:=ae (by simp);simp at this⊢;omega
   · cases j with
     |zero=>simp
     |succ j=>
      have:=aN j
      simp only[List.getElem?_cons_succ,this,List.length_cons]
      have aG:(n+1<=j+1/\j+1<n+1+(vs.length+1))<->(n<=j/\j<n+(vs.length+1)):=by omega
      have aE:j+1-(n+1)=j-n:=by omega
      simp only[aG,aE]
theorem Ad{w:World}{bx el ht hv:Nat}{c:Array Value}(h:w.heap[bx]? =some (.cells c el (ht,hv)))(k:Nat):w.cell? ⟨bx,k,none⟩=c[k]? :=by
 simp[World.cell?,h]
theorem LV{μ:bI}{H:ab}{w:World}(au:bK μ H w){b off:Nat}{i:fO}(hi:μ b=some i){cs:List ad}{el lo fi:Nat}{k:hb}(ag:H.get b=some (.cells cs el k lo fi))
  {v:ad}(aI:cs[off]? =some v):∃u,w.cell? ⟨i.bx,i.base+off,none⟩=some u/\bz μ v u:=by
 obtain⟨c,ht,hv,I,ae,_⟩:=au.rel b _ i ag hi
 obtain⟨u,hu,r⟩:=ae off v aI
 exact⟨u,by rw[Ad I,hu],r⟩
theorem LW{P:Program}{w:World}{a:Addr}{u:Value}(h:w.cell? a=some u):(_root_.Go.load a).run P w=.ok u w:=by
 rw[run_load];simp[h]
theorem TS{P:Program}{μ:bI}{H:ab}{w:World}(au:bK μ H w){b:Nat}{i:fO}(hi:μ b=some i){cs:List ad}{el lo fi:Nat}{k:hb}(ag:H.get b=some (.cells cs el k lo fi))(off:Nat):
  ∀(n s:Nat) (acc:Array Value) (tW:List ad),takeN n (j4 (off+s) cs)=some tW->
   ∃us:List Value,(loadCellsFrom ⟨i.bx,i.base+off,none⟩ s n acc).run P w=.ok (acc++us.toArray) w/\cG μ tW us:=by
 intro n
 induction n with
 |zero=>
  intro s acc tW h
  simp[takeN] at h;subst h
  exact⟨[],by simp[loadCellsFrom],rfl⟩
 |succ n bl=>
  intro s acc tW h
  rw[pB] at h
  cases ai:cs.drop (off+s) with
  |nil=>rw[ai] at h;simp[takeN] at h
  |cons a l=>
   rw[ai] at h
   simp only[takeN] at h
   cases e:takeN n l with
   |none=>simp[e] at h
   |some r=>
    simp[e] at h;subst h
    have aV:cs[off+s]? =some a:=by
     have:=congrArg (·[0]?) ai
     simpa[List.getElem?_drop] using this
    have aA:l=j4 (off+(s+1)) cs:=by
     rw[pB]
     have:=congrArg (List.drop 1) ai
     simp only[List.drop_drop,List.drop_succ_cons,List.drop_zero] at this
     rw[<-this];congr 1
    obtain⟨u,hu,ao⟩:=LV au hi ag aV
    obtain⟨us,I,ae⟩:=bl (s+1) (acc.push u) r (by rw[<-aA];exact e)
    refine⟨u::us,?_,⟨u,us,rfl,ao,ae⟩⟩
    have oK:w.cell? ((⟨i.bx,i.base+off,none⟩:Addr).add s)=some u:=by rw[add_plain,Nat.add_assoc];exact hu
    simp only[loadCellsFrom,Sem.run_bind,LW oK,Result.andThen_ok,I]
    congr 1
    apply Array.ext'
    simp
theorem tX{P:Program}{μ:bI}{H:ab}{w:World}(au:bK μ H w){b off n:Nat}{i:fO}(hi:μ b=some i){tW:List ad}(h:loadCells H b off n=some tW):
  ∃us:List Value,(_root_.Go.loadCells ⟨i.bx,i.base+off,none⟩ n).run P w=.ok ⟨us⟩ w/\cG μ tW us:=by
 unfold loadCells at h
 split at h
 · rename_i cs el k lo fi ag
   obtain⟨us,I,ae⟩:=TS (P:=P) au hi ag off n 0 #[] tW h
   exact⟨us,by simpa[_root_.Go.loadCells] using I,ae⟩
 · cases h
theorem Gr{P:Program}{μ:bI}{H:ab}{w:World}(au:bK μ H w){b off:Nat}{i:fO}(hi:μ b=some i){v:ad}(h:aq H b off=some v):
  ∃u,(_root_.Go.load ⟨i.bx,i.base+off,none⟩).run P w=.ok u w/\bz μ v u:=by
 unfold aq at h
 split at h
 · rename_i cs el k lo fi ag
   rw[sx] at h
   obtain⟨u,hu,ao⟩:=LV au hi ag h
   exact⟨u,LW hu,ao⟩
 · cases h
theorem LX(P:Program)(bx k:Nat):∀(vs:List Value) (w:World) (i:Nat) (c:Array Value) (el ht hv:Nat),w.heap[bx]? =some (.cells c el (ht,hv))->
  (∀v∈vs,v.oneCell'=true)->k+i+vs.length<=c.size->(∀j,k+i<=j->j<k+i+vs.length->¬(ht<=j/\j<hv))->
  ∃w' c',(_root_.Go.storeCells ⟨bx,k,none⟩ vs i).run P w=.ok () w'/\w'.heap[bx]? =some (.cells c' el (ht,hv))/\(∀r,r≠bx->w'.heap[r]? =w.heap[r]?)/\w'.heap.size=w.heap.size/\
   w'.os=w.os/\w'.output=w.output/\(w'.tape=w.tape/\w'.drawn=w.drawn)/\c'.size=c.size/\∀j,c'[j]? =if k+i<=j/\j<k+i+vs.length then vs[j-(k+i)]? else c[j]? :=by
 intro vs
 induction vs with
 |nil=>
  intro w i c el ht hv ag _ _ _
  exact⟨w,c,by simp[_root_.Go.storeCells],ag,λ_ _=>rfl,rfl,rfl,rfl,⟨rfl,rfl⟩,rfl,λj=>by rw[if_neg (by simp)]⟩
 |cons v vs bl=>
  intro w i c el ht hv ag ah al hf
  simp only[List.length_cons] at al hf
  have cB:k+i<c.size:=by omega
  have jJ:w.cell? ⟨bx,k+i,none⟩=some c[k+i]:=by rw[Ad ag];exact Array.getElem?_eq_getElem cB
  have Gs:w.frozen? ⟨bx,k+i,none⟩=false:=by
   have:=hf (k+i) (by omega) (by omega)
   simp only[World.frozen?,ag]
   cases I:decide (ht<=k+i) with
   |false=>rfl
   |true=>
    cases ae:decide (k+i<hv) with
    |false=>rfl
    |true=>exact absurd ⟨of_decide_eq_true I,of_decide_eq_true ae⟩ this
  have kK:(w.setCell ⟨bx,k+i,none⟩ v).heap[bx]? =some (.cells (c.setIfInBounds (k+i) v) el (ht,hv)):=by
   simp[World.setCell,Array.getElem?_modify,ag]
  obtain⟨w',c',I,ae,ax,aN,bS,cz,dw,gF,hz⟩:=bl (w.setCell ⟨bx,k+i,none⟩ v) (i+1) (c.setIfInBounds (k+i) v) el ht hv kK (λx aa=>ah x (.tail _ aa)) (by simp;omega)
   (λj ajh rC=>hf j (by omega) (by omega))
  refine⟨w',c',?_,ae,λr ao=>?_,?_,bS,cz,dw,by simpa using gF,λj=>?_⟩
  · simp only[_root_.Go.storeCells,Sem.run_bind,add_plain,run_store P w ⟨bx,k+i,none⟩ v .plain (ah v (.head _)),jJ,Gs,Bool.false_eq_true,if_false,Result.andThen_ok,I]
  · rw[ax r ao];simp only[World.setCell,Array.getElem?_modify]
    rw[if_neg (λe=>ao e.symm)]
  · rw[aN];simp[World.setCell]
  · rw[hz j]
    by_cases e:j=k+i
    · subst e
      rw[if_neg (by omega),if_pos (by simp),Array.getElem?_setIfInBounds]
      simp[cB]
    · by_cases aE:k+(i+1)<=j/\j<k+(i+1)+vs.length
      · rw[if_pos aE,if_pos (by simp only[List.length_cons];omega)]
        have:j-(k+i)=(j-(k+(i+1)))+1:=by omega
        rw[this];simp
      · rw[if_neg aE,if_neg (by simp only[List.length_cons];omega),Array.getElem?_setIfInBounds]
        rw[if_neg (λdc=>e dc.symm)]
theorem cG.Aa{μ:bI}:∀{as:List ad} {vs:List Value},cG μ as vs->(∀a∈as,a.de=true)->∀v∈vs,v.oneCell'=true
 |[],_,h,_=>by cases h;intro v aI;cases aI
 |a::as,_,⟨v,vs,e,I,ae⟩,ah=>by
  subst e
  intro x aa
  cases aa with
  |head=>exact I.Aa (ah a (.head _))
  |tail _ aa=>exact cG.Aa ae (λa aV=>ah a (.tail _ aV)) x aa
theorem TT{k:hb}{lo hi off n:Nat}(hw:mF k lo hi off n=true){cs:List ad}{i:fO}{ht hv:Nat}(ay:LU k cs i lo hi ht hv)(gp:n=0\/off+n<=i.size):
  ∀j,i.base+off<=j->j<i.base+off+n->¬(ht<=j/\j<hv):=by
 intro j I ae ⟨ax,aN⟩
 cases k with
 |ro=>simp[mF] at hw
 |fz=>simp[mF] at hw
 |own=>
  obtain⟨ag,al,rfl,rfl⟩:=ay
  simp only[mF,Bool.or_eq_true,Nat.ble_eq] at hw
  omega
 |aL=>
  obtain⟨al,hf⟩:=ay
  simp only[mF,Bool.or_eq_true,Nat.ble_eq] at hw
  have:=hf (j-i.base) (by omega) (by omega) (by omega)
  omega
theorem Ae{P:Program}{μ:bI}{H:ab}{w:World}(au:bK μ H w){b off:Nat}{i:fO}(hi:μ b=some i){vs:List ad}{us:List Value}(aI:cG μ vs us){a6:ab}
  (h:storeCells H b off vs=some a6):
  ∃w',(_root_.Go.storeCells ⟨i.bx,i.base+off,none⟩ us).run P w=.ok () w'/\bK μ a6 w'/\cA μ H w μ a6 w':=by
 unfold storeCells at h
 split at h
 · rename_i cs el k lo fi ag
   split at h
   · rename_i hw
     split at h
     · rename_i b5 a0
       cases h
       obtain⟨cT,dv,eY,gq⟩:=Dh _ _ _ _ a0
       obtain⟨c,ht,hv,I,ae,ax,aN⟩:=au.rel b _ i ag hi
       have hlen:=aI.length
       have bJ:vs≠[]->off+vs.length<=i.size/\i.base+off+vs.length<=c.size:=λdr=>by
        have:=dv dr
        have rD:=ae (cs.length-1) (cs[cs.length-1]'(by cases vs with|nil=>exact absurd rfl dr|cons a l=>simp at this;omega)) (List.getElem?_eq_getElem _)
        obtain⟨u,hu,_⟩:=rD
        have cB:i.base+(cs.length-1)<c.size:=by
         rcases Nat.lt_or_ge (i.base+(cs.length-1)) c.size with h|h
         · exact h
         · rw[Array.getElem?_eq_none h] at hu;cases hu
        have rE:0<vs.length:=by cases vs with|nil=>exact absurd rfl dr|cons a l=>simp
        cases k with
        |ro=>simp[mF] at hw
        |fz=>simp[mF] at hw
        |own=>obtain⟨cu,cU,_⟩:=aN;omega
        |aL=>obtain⟨cu,_⟩:=aN;omega
       by_cases dr:vs=[]
       · subst dr
         have:us=[]:=by cases us with|nil=>rfl|cons a l=>simp at hlen
         subst this
         have gG:b5=cs:=by
          apply List.ext_getElem?
          intro j;rw[gq j,if_neg (by simp)]
         subst gG
         obtain⟨r1,r2⟩:=au.update (w':=w) ag (by cases k<;>first|rfl|simp[mF] at hw) hi rfl (λ_ _=>rfl) rfl rfl rfl (au.rel b _ i ag hi)
         exact⟨w,by simp[_root_.Go.storeCells],r1,r2⟩
       · obtain⟨s1,s2⟩:=bJ dr
         obtain⟨w',c',aG,aE,bH,eu,eZ,hd,hA,ic,hN⟩:=LX P i.bx (i.base+off) us w 0 c el ht hv I (aI.Aa eY) (by omega)
          (by have:=TT hw aN (.inr s1);rw[hlen] at this;simpa using this)
         obtain⟨r1,r2⟩:=au.update (w':=w') (o':=.cells b5 el k lo fi) ag (by cases k<;>first|rfl|simp[mF] at hw) hi eu bH eZ hd hA.1 (hdr:=Nat.le_of_eq hA.2.symm)
          ⟨c',ht,hv,aE,λj v aO=>by
           rw[gq j] at aO
           rw[hN]
           by_cases ao:off<=j/\j<off+vs.length
           · rw[if_pos ao] at aO
             rw[if_pos (by omega)]
             have:i.base+j-(i.base+off+0)=j-off:=by omega
             rw[this];exact aI.get aO
           · rw[if_neg ao] at aO
             rw[if_neg (by omega)]
             exact ae j v aO,by omega,by
           cases k with
           |ro=>trivial
           |fz=>trivial
           |own=>obtain⟨cu,cU,dm⟩:=aN;exact⟨cu,by omega,dm⟩
           |aL=>obtain⟨cu,cU⟩:=aN;exact⟨by omega,cU⟩⟩
         exact⟨w',aG,r1,r2⟩
     · cases h
   · cases h
 · cases h
theorem World.heap_alloc_new(w:World)(x:Obj):(w.alloc x).heap[w.heap.size]? =some x:=by unfold World.alloc;simp
theorem Di{P:Program}{μ:bI}{H:ab}{w:World}(au:bK μ H w){el b:Nat}{cs:List ad}{us:List Value}{a6:ab}(aI:cG μ cs us)(h:newRow H el cs=some (b,a6)):
  (_root_.Go.newRow el ⟨us⟩).run P w=.ok ⟨w.heap.size,0,none⟩ (w.alloc (.cells ⟨us⟩ el))/\b=H.n/\gx μ H.n ⟨w.heap.size,0,us.length⟩ b=some ⟨w.heap.size,0,us.length⟩/\
   bK (gx μ H.n ⟨w.heap.size,0,us.length⟩) a6 (w.alloc (.cells ⟨us⟩ el))/\cA μ H w (gx μ H.n ⟨w.heap.size,0,us.length⟩) a6 (w.alloc (.cells ⟨us⟩ el)):=by
 unfold newRow at h
 split at h
 · cases h
   have hle:=au.qo ⟨w.heap.size,0,us.length⟩
   obtain⟨r1,r2⟩:=au.alloc (.cells cs el .own 0 0) (.cells ⟨us⟩ el) us.length
    ⟨⟨us⟩,0,0,by exact World.heap_alloc_new _ _,λj v aO=>by
      obtain⟨u,hu,ao⟩:=aI.get aO
      exact⟨u,by simpa using hu,ao.mono hle⟩,by simp,rfl,aI.length.symm,rfl,rfl⟩
   exact⟨by simp[_root_.Go.newRow],rfl,hy _ _ _,r1,r2⟩
 · cases h
section types
variable {P:Program} {w:World} {t:TypeId}
theorem run_typeInfo{i:TypeInfo}(h:P.info? t=some i):(typeInfo t).run P w=.ok i w:=by simp[typeInfo,h]
theorem cl{d:TypeDesc}(h:P.underlying t=some d):(underlying t).run P w=.ok d w:=by simp[underlying,h]
theorem run_sizeOf{n:Nat}(h:ef P t=some n):(_root_.Go.sizeOf t).run P w=Result.ok n w:=by
 unfold ef at h
 split at h
 · rename_i i hi;cases h;simp[_root_.Go.sizeOf,run_typeInfo hi]
 · cases h
theorem xW{b:Bool}(h:re P t=some b):(isAgg t).run P w=.ok b w:=by
 unfold re at h
 cases hu:P.underlying t with
 |none=>rw[hu] at h;cases h
 |some d=>
  rw[hu] at h
  simp only[isAgg,Sem.run_bind,cl hu,Result.andThen_ok]
  cases d<;>cases h<;>rfl
theorem nO{z:ad}(h:eT P t=some z):∃v,(zeroValue t).run P w=.ok v w/\z=qh v/\z≠ .bad:=by
 unfold eT at h
 split at h
 · rename_i i hi
   split at h
   · rename_i v aI
     split at h
     · cases h
     · rename_i a dr
       cases h
       exact⟨v,by simp[zeroValue,run_typeInfo hi,aI],rfl,dr⟩
   · cases h
 · cases h
end types
end bg
namespace bg
open Go
def fP(P:Program)(μ:bI)(H:ab)(w:World)(s:Sem Value)(v:ad)(a6:ab):Prop:=
 ∃a9 w' v',s.run P w=.ok v' w'/\bz a9 v v'/\bK a9 a6 w'/\cA μ H w a9 a6 w'
theorem fP.same{P:Program}{μ:bI}{H:ab}{w:World}{s:Sem Value}{v:ad}{v':Value}(au:bK μ H w)(al:s.run P w=.ok v' w)(aI:bz μ v v'):fP P μ H w s v H:=
 ⟨μ,w,v',al,aI,au,cA.refl _ _ _⟩
section
variable {P:Program} {μ:bI} {H:ab} {w:World}
theorem TU(au:bK μ H w){e:TypeId}{z:ad}(a7:eT P e=some z){b:Nat}{a6:ab}(ao:newRow H e z.cells=some (b,a6)):
  fP P μ H w (Instr.alloc e true (.tuple #[])) (.ptr b 0) a6:=by
 obtain⟨v,aI,rfl,ag⟩:=nO (w:=w) a7
 have ah:=(lO μ v).cells ag
 obtain⟨I,rfl,ae,ax,aN⟩:=Di (P:=P) au ah ao
 refine⟨_,_,.pointer (some ⟨w.heap.size,0,none⟩),?_,⟨_,ae,by simp⟩,ax,aN⟩
 simp[Instr.alloc,aI,newVar,I]
theorem TV(au:bK μ H w){e:TypeId}{x:ad}{v:Value}(aI:bz μ x v){b:Nat}{a6:ab}(ao:newRow H e x.cells=some (b,a6)):
  fP P μ H w (Instr.box e v) (.ptr b 0) a6:=by
 have ag:x≠ .bad:=by intro h;rw[h] at ao;simp[newRow,ad.cells,ad.de] at ao
 obtain⟨I,rfl,ae,ax,aN⟩:=Di (P:=P) au (aI.cells ag) ao
 refine⟨_,_,.pointer (some ⟨w.heap.size,0,none⟩),?_,⟨_,ae,by simp⟩,ax,aN⟩
 simp[Instr.box,newVar,I]
theorem TW(au:bK μ H w){t:TypeId}{b off:Nat}{v:Value}(aI:bz μ (.ptr b off) v):
  (∀n cs,re P t=some true->ef P t=some n->loadCells H b off n=some cs->fP P μ H w (Instr.loadAt t v) (.agg cs) H)/\
  (∀x,re P t=some false->aq H b off=some x->fP P μ H w (Instr.loadAt t v) x H):=by
 obtain⟨i,hi,rfl⟩:=aI
 constructor
 · intro n cs aV aH aA
   obtain⟨us,I,ae⟩:=tX (P:=P) au hi aA
   exact .same au (v':=.agg ⟨us⟩) (by simp[Instr.loadAt,Instr.sureAddr,loadVar,xW aV,run_sizeOf aH,I]) ⟨us,rfl,ae⟩
 · intro x aV aA
   obtain⟨u,I,ae⟩:=Gr (P:=P) au hi aA
   exact .same au (v':=u) (by simp only[Instr.loadAt,Instr.sureAddr,loadVar,Sem.run_bind,Sem.run_pure,Result.andThen_ok,xW aV,Bool.false_eq_true,if_false,I]) ae
theorem TX(au:bK μ H w){t:TypeId}{b off n:Nat}{v u:Value}{x:ad}(aI:bz μ (.ptr b off) v)(aa:bz μ x u)(ag:x≠ .bad)(aH:ef P t=some n)(aA:x.cells.length=n)
  {a6:ab}(al:storeCells H b off x.cells=some a6):
  ∃w',(Instr.storeAt t v u).run P w=.ok () w'/\bK μ a6 w'/\cA μ H w μ a6 w':=by
 obtain⟨i,hi,rfl⟩:=aI
 have ah:=aa.cells ag
 obtain⟨w',I,ae,ax⟩:=Ae (P:=P) au hi ah al
 refine⟨w',?_,ae,ax⟩
 have bJ:u.cells.size=n:=by have:=ah.length;rw[aA] at this;simpa using this.symm
 simp[Instr.storeAt,Instr.sureAddr,storeVar,run_sizeOf aH,bJ,I]
theorem LY(off:Nat):∀(l:List Value) (s:Nat) (cs:Array Value),off+s+l.length<=cs.size->
  ((l.zipIdx s).foldl (λcs (x:Value×Nat)=>cs.setIfInBounds (off+x.2) x.1) cs).size=cs.size/\
  ∀j:Nat,((l.zipIdx s).foldl (λcs (x:Value×Nat)=>cs.setIfInBounds (off+x.2) x.1) cs)[j]? =if off+s<=j/\j<off+s+l.length then l[j-(off+s)]? else cs[j]?
 |[],s,cs,_=>by
  refine⟨rfl,λj=>by rw[if_neg (by simp)];rfl⟩
 |a::l,s,cs,h=>by
  simp only[List.length_cons] at h
  obtain⟨I,ae⟩:=LY off l (s+1) (cs.setIfInBounds (off+s) a) (by simp;omega)
  simp only[List.zipIdx_cons,List.foldl_cons]
  refine⟨by rw[I];simp,λj=>?_⟩
  rw[ae j]
  by_cases e:j=off+s
  · subst e
    rw[if_neg (by omega),if_pos (by simp),Array.getElem?_setIfInBounds]
    simp;omega
  · by_cases aE:off+(s+1)<=j/\j<off+(s+1)+l.length
    · rw[if_pos aE,if_pos (by simp only[List.length_cons];omega)]
      have:j-(off+s)=(j-(off+(s+1)))+1:=by omega
      rw[this];simp
    · rw[if_neg aE,if_neg (by simp only[List.length_cons];omega),Array.getElem?_setIfInBounds,if_neg (λdc=>e dc.symm)]
theorem Af(place:Nat->Option (Nat×Nat)){vF:Type}(g:vF->ad)(cP:vF->Value)(ar:∀x,bz μ (g x) (cP x)):∀(ps:List (Nat×vF)) (cs r:List ad) (c:Array Value),cG μ cs c.toList->
  lq place cs (ps.map λp=>(p.1,g p.2))=some r->∃c':List Value,Instr.fill place c (ps.map λp=>(p.1,cP p.2))=some ⟨c'⟩/\cG μ r c'
 |[],cs,r,c,ah,h=>by
  simp[lq] at h;subst h
  exact⟨c.toList,by simp[Instr.fill],ah⟩
 |(k,x)::ps,cs,r,c,ah,h=>by
  simp only[List.map_cons] at h⊢
  have aI:=ar x
  generalize g x=v at h aI
  generalize cP x=u at aI⊢
  have ag:v≠ .bad:=by intro e;subst e;simp[lq] at h
  have qp:∃off size b5,place k=some (off,size)/\v.cells.length=size/\off+size<=cs.length/\gD off v.cells cs=some b5/\lq place b5 (ps.map λp=>(p.1,g p.2))=some r:=by
   cases v<;>first
    |exact absurd rfl ag
    |(simp only[lq] at h
      split at h
      · cases h
      · rename_i off size hV
        split at h
        · rename_i bJ
          simp only[Bool.and_eq_true,Nat.ble_eq] at bJ
          split at h
          · rename_i b5 Ag
            exact⟨off,size,b5,hV,Nat.eq_of_beq_eq_true bJ.1,bJ.2,Ag,h⟩
          · cases h
        · cases h)
  obtain⟨off,size,b5,hV,bJ,hbound,Ag,pC⟩:=qp
  obtain⟨cT,dv,eY,gq⟩:=Dh _ _ _ _ Ag
  have qq:=aI.cells ag
  have aA:=qq.length
  have tY:=ah.length
  have ax:c.toList.length=c.size:=by simp
  have TY:u.cells.size=size:=by rw[<-bJ,aA];simp
  obtain⟨f1,f2⟩:=LY off u.cells.toList 0 c (by simp;omega)
  have TZ:(u.cells.zipIdx.foldl (λcs (x:Value×Nat)=>cs.setIfInBounds (off+x.2) x.1) c)=((u.cells.toList.zipIdx 0).foldl (λcs (x:Value×Nat)=>cs.setIfInBounds (off+x.2) x.1) c):=by
   rw[<-Array.foldl_toList,Array.toList_zipIdx]
  have key:cG μ b5 (u.cells.zipIdx.foldl (λcs (x:Value×Nat)=>cs.setIfInBounds (off+x.2) x.1) c).toList:=by
   rw[TZ]
   refine cG.z_ (by rw[cT,tY];simpa using f1.symm) λj a aV=>?_
   rw[gq j] at aV
   rw[Array.getElem?_toList,f2 j]
   have LZ:u.cells.toList.length=v.cells.length:=aA.symm
   by_cases ao:off<=j/\j<off+v.cells.length
   · rw[if_pos ao] at aV;rw[if_pos (by omega)]
     exact qq.get (by simpa using aV)
   · rw[if_neg ao] at aV;rw[if_neg (by omega)]
     simpa using ah.get aV
  obtain⟨c',ak,av⟩:=Af place g cP ar ps b5 r _ key pC
  refine⟨c',?_,av⟩
  simp only[Instr.fill,hV,TY]
  rw[if_neg (by simp;omega)]
  exact ak
theorem T0{t:TypeId}{n:Nat}(h:ef P t=some n):P.cellsOf t=n:=by
 unfold ef at h
 split at h
 · rename_i i hi;cases h;simp[Program.cellsOf,hi]
 · cases h
theorem run_places(w:World):∀l:List Field,(l.all λf=>(ef P f.type).isSome)=true->
  (l.mapM (λf=>do pure (f.offset,<-_root_.Go.sizeOf f.type):Field->Sem (Nat×Nat))).run P w=.ok (l.map λf=>(f.offset,P.cellsOf f.type)) w
 |[],_=>rfl
 |f::l,h=>by
  simp only[List.all_cons,Bool.and_eq_true] at h
  obtain⟨n,aH⟩:=Option.isSome_iff_exists.1 h.1
  simp only[List.mapM_cons,Sem.run_bind,run_sizeOf aH,Result.andThen_ok,Sem.run_pure,run_places w l h.2,List.map_cons,T0 aH]
theorem T1(au:bK μ H w)(g:Operand->ad)(cP:Operand->Value)(ar:∀x,bz μ (g x) (cP x)){t:TypeId}{z:ad}(a7:eT P t=some z){b6:Array Field}(hu:P.underlying t=some (.struct b6))
  (eL:(b6.toList.all λf=>(ef P f.type).isSome)=true)(parts:Array (Nat×Operand)){cs:List ad}
  (hf:lq (λi=>(b6[i]?).map λf=>(f.offset,P.cellsOf f.type)) z.cells (parts.toList.map λp=>(p.1,g p.2))=some cs):
  fP P μ H w (Instr.build t (parts.map λ(i,x)=>(i,cP x))) (.agg cs) H:=by
 obtain⟨v,aI,rfl,ag⟩:=nO (w:=w) a7
 have ah:=(lO μ v).cells ag
 obtain⟨c',I,ae⟩:=Af _ g cP ar parts.toList _ cs v.cells ah hf
 have a0:=run_places (P:=P) w b6.toList eL
 refine .same au (v':=.agg ⟨c'⟩) ?_ ⟨c',rfl,ae⟩
 have hm:(b6.mapM (λf=>do pure (f.offset,<-_root_.Go.sizeOf f.type):Field->Sem (Nat×Nat))).run P w=.ok (b6.map λf=>(f.offset,P.cellsOf f.type)) w:=by
  obtain⟨l⟩:=b6
  have e:(l.toArray.mapM (λf=>do pure (f.offset,<-_root_.Go.sizeOf f.type):Field->Sem (Nat×Nat)))=List.toArray<$>l.mapM (λf=>do pure (f.offset,<-_root_.Go.sizeOf f.type)):=List.mapM_toArray
  refine(congrArg (λs:Sem (Array (Nat×Nat))=>s.run P w) e).trans ?_
  simp only[Sem.run_map]
  rw[show(Sem.run P (List.mapM (λf=>do pure (f.offset,<-_root_.Go.sizeOf f.type):Field->Sem (Nat×Nat)) l) w)=_ from a0];simp
 have T2:(λi:Nat=>(b6.map λf=>(f.offset,P.cellsOf f.type))[i]?)=λi=>(b6[i]?).map λf=>(f.offset,P.cellsOf f.type):=by
  funext i;simp
 simp only[Instr.build,Sem.run_bind,aI,Result.andThen_ok,cl hu,hm,T2,Array.toList_map,I]
 rfl
theorem T3(au:bK μ H w)(g:Operand->ad)(cP:Operand->Value)(ar:∀x,bz μ (g x) (cP x)){t e:TypeId}{n sz:Nat}{z:ad}(a7:eT P t=some z)(hu:P.underlying t=some (.array n e))
  (al:ef P e=some sz)(parts:Array (Nat×Operand)){cs:List ad}
  (hf:lq (λi=>some (i*sz,sz)) z.cells (parts.toList.map λp=>(p.1,g p.2))=some cs):
  fP P μ H w (Instr.build t (parts.map λ(i,x)=>(i,cP x))) (.agg cs) H:=by
 obtain⟨v,aI,rfl,ag⟩:=nO (w:=w) a7
 have ah:=(lO μ v).cells ag
 obtain⟨c',I,ae⟩:=Af _ g cP ar parts.toList _ cs v.cells ah hf
 refine .same au (v':=.agg ⟨c'⟩) ?_ ⟨c',rfl,ae⟩
 simp only[Instr.build,Sem.run_bind,aI,Result.andThen_ok,cl hu,run_sizeOf al,Array.toList_map,I]
 rfl
theorem L0{α:Type}(n:Nat)(l:List α):(gm n l).length=n*l.length:=by
 induction n with
 |zero=>simp[gm]
 |succ n bl=>simp[gm,bl,Nat.succ_mul];omega
theorem L1{α:Type}:∀(n:Nat) (l:List α) (j:Nat),j<n*l.length->(gm n l)[j]? =l[j %l.length]?
 |0,l,j,h=>by simp at h
 |n+1,l,j,h=>by
  simp only[gm]
  by_cases e:j<l.length
  · rw[List.getElem?_append_left e,Nat.mod_eq_of_lt e]
  · rw[List.getElem?_append_right (by omega),L1 n l (j-l.length) (by rw[Nat.succ_mul] at h;omega)]
    have:(j-l.length) %l.length=j %l.length:=by
     have au:j=(j-l.length)+l.length:=by omega
     conv=>rhs;rw[au,Nat.add_mod_right]
    rw[this]
theorem Ah{pD:List ad}{zero:Array Value}(a7:cG μ pD zero.toList){sz:Nat}(al:pD.length=sz)(n:Nat):
  cG μ (gm n pD) ((Array.range (n*sz)).map (λi=>zero[i %zero.size]!)).toList:=by
 have aA:=a7.length
 have ax:zero.toList.length=zero.size:=by simp
 refine cG.z_ (by rw[L0,al];simp) λj a aV=>?_
 have aO:j<n*pD.length:=by
  rcases Nat.lt_or_ge j (n*pD.length) with h|h
  · exact h
  · rw[List.getElem?_eq_none (by rw[L0];exact h)] at aV;cases aV
 rw[L1 n pD j aO] at aV
 obtain⟨u,hu,ao⟩:=a7.get aV
 refine⟨u,?_,ao⟩
 have rE:0<pD.length:=by
  rcases Nat.eq_zero_or_pos pD.length with h|h
  · rw[h] at aO;simp at aO
  · exact h
 have cB:j %zero.size<zero.size:=Nat.mod_lt _ (by omega)
 have aG:pD.length=zero.size:=by omega
 rw[aG] at hu
 rw[Array.getElem?_toList] at hu
 rw[Array.getElem?_toList,Array.getElem?_map,Array.getElem?_range]
 rw[if_pos (by rw[<-al];exact aO)]
 simp only[Option.map_some]
 rw[Array.getElem?_eq_getElem cB] at hu
 simp only[Option.some.injEq] at hu
 rw[getElem!_pos zero _ cB,hu]
theorem T4(au:bK μ H w)(g:Operand->ad)(cP:Operand->Value)(ar:∀x,bz μ (g x) (cP x)){t e:TypeId}{len sz:Nat}{z:ad}(hu:P.underlying t=some (.slice e))(al:ef P e=some sz)
  (a7:eT P e=some z)(hle:len*sz<=16777216)(pE:z.cells.length=sz)(parts:Array (Nat×Operand)){cs:List ad}
  (hf:lq (λi=>some (i*sz,sz)) (if len*sz=0 then[] else gm len z.cells) (parts.toList.map λp=>(p.1,g p.2))=some cs){b:Nat}{a6:ab}(ao:newRow H e cs=some (b,a6)):
  fP P μ H w (Instr.buildSlice t len (parts.map λ(i,x)=>(i,cP x))) (.slice b 0 len (.exact len)) a6:=by
 obtain⟨v,aI,rfl,ag⟩:=nO (w:=w) a7
 have ah:=(lO μ v).cells ag
 have Ai:¬(len*sz>2^24):=by omega
 have key:∀zero:Array Value,cG μ (if len*sz=0 then[] else gm len (qh v).cells) ((Array.range (len*sz)).map (λi=>zero[i %zero.size]!)).toList->
   (∀r:Result Value,r=(match Instr.fill (λi=>some (i*sz,sz)) ((Array.range (len*sz)).map (λi=>zero[i %zero.size]!)) (parts.toList.map λp=>(p.1,cP p.2)) with
    |some cells=>do pure (.slice (some (<-_root_.Go.newRow e cells)) len len)
    |none=>stuck "buildSlice: a part of the wrong size" :Sem Value).run P w->(Instr.buildSlice t len (parts.map λ(i,x)=>(i,cP x))).run P w=r)->
   fP P μ H w (Instr.buildSlice t len (parts.map λ(i,x)=>(i,cP x))) (.slice b 0 len (.exact len)) a6:=by
  intro zero sy fB
  obtain⟨c',I,ae⟩:=Af _ g cP ar parts.toList _ cs _ sy hf
  obtain⟨aB,rfl,aY,bd,bj⟩:=Di (P:=P) au ae ao
  refine⟨_,_,.slice (some ⟨w.heap.size,0,none⟩) len len,?_,⟨_,aY,by simp[Gl]⟩,bd,bj⟩
  refine fB _ ?_
  rw[I]
  simp[aB]
 by_cases h0:len*sz=0
 · refine key #[] (by rw[if_pos h0,h0];simp[cG]) λr ao=>?_
   rw[ao]
   simp only[Instr.buildSlice,Sem.run_bind,cl hu,Result.andThen_ok,run_sizeOf al,if_neg Ai,if_pos h0,Sem.run_pure,Array.toList_map]
   generalize Instr.fill _ _ _=F
   cases F<;>rfl
 · refine key v.cells (by rw[if_neg h0];exact Ah ah pE len) λr ao=>?_
   rw[ao]
   simp only[Instr.buildSlice,Sem.run_bind,cl hu,Result.andThen_ok,run_sizeOf al,if_neg Ai,if_neg h0,Sem.run_pure,Array.toList_map,aI]
   generalize Instr.fill _ _ _=F
   cases F<;>rfl
end
end bg
namespace bg
open Go
theorem tZ(n:Nat)(h:n<9223372036854775808):IntKind.wrap .i64 (n:Int)=(n:Int):=by
 have e:((n:Int) %18446744073709551616)=n:=by omega
 have aE:(2:Int)^64=18446744073709551616:=by rfl
 have bH:(2:Int)^63=9223372036854775808:=by rfl
 simp only[IntKind.wrap,IntKind.bits,IntKind.signed,aE,bH,e,Bool.true_and,decide_eq_true_eq,Nat.add_one_sub_one]
 rw[if_neg (by show¬((2:Int)^63<=n);rw[bH];omega)]
section
variable {P:Program} {μ:bI} {H:ab} {w:World}
theorem T5(au:bK μ H w){t e:TypeId}{l c:Nat}{i:TypeInfo}{z:ad}{kl kc:IntKind}(hu:P.underlying t=some (.slice e))(hi:P.info? e=some i)(a7:eT P e=some z)(tY:l<=c)
  (xX:c*(i.bytes+1)<=1099511627776)(pE:z.cells.length=i.size){b:Nat}{a6:ab}(ao:newRow H e (if c*i.size=0 then[] else gm c z.cells)=some (b,a6)):
  fP P μ H w (Instr.makeSlice t (.int kl l) (.int kc c)) (.slice b 0 l (.exact c)) a6:=by
 obtain⟨v,aI,rfl,ag⟩:=nO (w:=w) a7
 have ah:=(lO μ v).cells ag
 have t_:c<=1099511627776:=Nat.le_trans (Nat.le_mul_of_pos_right c (by omega)) xX
 have mK:i.bytes*c<=1099511627776:=by
  have:c*i.bytes<=c*(i.bytes+1):=Nat.mul_le_mul_left c (by omega)
  rw[Nat.mul_comm];omega
 have Aj:∀n:Nat,n<=1099511627776->IntKind.wrap .i64 (n:Int)=(n:Int):=λn aH=>tZ n (by omega)
 have mL:=Aj l (by omega)
 have Ak:=Aj c t_
 have vI:¬((c:Int)<0||(i.bytes:Int)*(c:Int)>2^48||(l:Int)<0||(l:Int)>(c:Int))=true:=by
  have I:((i.bytes:Int)*(c:Int))<=1099511627776:=by
   have h0:((i.bytes*c:Nat):Int)<=1099511627776:=by omega
   rw[Int.natCast_mul] at h0;exact h0
  have ae:(2:Int)^48=281474976710656:=by rfl
  generalize (i.bytes:Int)*(c:Int)=q at I⊢
  rw[ae]
  simp only[Bool.or_eq_true,decide_eq_true_eq]
  omega
 have key:∀zero:Array Value,cG μ (if c*i.size=0 then[] else gm c (qh v).cells) ((Array.range (c*i.size)).map (λj=>zero[j %zero.size]!)).toList->
   (Instr.makeSlice t (.int kl l) (.int kc c)).run P w=(do let a<-_root_.Go.newRow e ((Array.range (c*i.size)).map (λj=>zero[j %zero.size]!));pure (.slice (some a) l c):Sem Value).run P w->
   fP P μ H w (Instr.makeSlice t (.int kl l) (.int kc c)) (.slice b 0 l (.exact c)) a6:=by
  intro zero sy fB
  obtain⟨aB,rfl,aY,bd,bj⟩:=Di (P:=P) au sy ao
  refine⟨_,_,.slice (some ⟨w.heap.size,0,none⟩) l c,?_,⟨_,aY,by simp[Gl]⟩,bd,bj⟩
  rw[fB]
  simp only[Sem.run_bind,Sem.run_pure]
  have:(⟨((Array.range (c*i.size)).map (λj=>zero[j %zero.size]!)).toList⟩:Array Value)=((Array.range (c*i.size)).map (λj=>zero[j %zero.size]!)):=rfl
  rw[this] at aB
  rw[aB];rfl
 have bJ:(_root_.Go.sizeOf e).run P w=.ok i.size w:=by simp[_root_.Go.sizeOf,run_typeInfo hi]
 by_cases h0:c*i.size=0
 · refine key #[] (by rw[if_pos h0,h0];simp[cG]) ?_
   simp only[Instr.makeSlice,Sem.run_bind,cl hu,Result.andThen_ok,asInt,asIntOf,Sem.run_pure,run_typeInfo hi,mL,Ak]
   rw[if_neg vI]
   simp[bJ,h0]
 · refine key v.cells (by rw[if_neg h0];exact Ah ah pE c) ?_
   simp only[Instr.makeSlice,Sem.run_bind,cl hu,Result.andThen_ok,asInt,asIntOf,Sem.run_pure,run_typeInfo hi,mL,Ak]
   rw[if_neg vI]
   simp[bJ,h0,aI]
theorem T6{x:ad}{v:Value}(aI:bz μ x v)(aa:(∃b o,x=.ptr b o)\/(∃b o n c,x=.slice b o n c)\/(∃f a b,x=.fn f a b)\/∃t y,x=.iface t y):
  ∀(o:Oper) (op:Operand) (cP:Operand->Value),cP op=v->o.op=.nilCheck op->(execOp cP o).run P w=.ok (.value v) w:=by
 intro o op cP T7 bc
 simp only[execOp,bc,T7]
 rcases aa with⟨b,o',rfl⟩|⟨b,o',n,c,rfl⟩|⟨f,a,b,rfl⟩|⟨t,y,rfl⟩
 · obtain⟨i,_,rfl⟩:=aI;rfl
 · obtain⟨i,_,ah⟩:=aI
   cases c with
   |exact c=>cases ah;rfl
   |aL hK=>obtain⟨c,rfl,_⟩:=ah;rfl
   |dead=>obtain⟨_,a,c,rfl⟩:=ah;rfl
 · obtain⟨b6,cs,rfl,_,_⟩:=aI;rfl
 · obtain⟨Dj,rfl,_⟩:=aI;rfl
theorem T8(op:BinOp)(t:TypeId)(k:IntKind)(x y:Int)(eM:op≠ .shl/\op≠ .shr):binOp op t (.int k x) (.int k y)=match op with
  |.add|.sub|.mul=>Op.intArith op k x y
  |.quo|.rem=>Op.intDiv op k x y
  |.and|.or|.xor|.andNot=>Op.intBits op k x y
  |_=>Op.intCmp op x y:=by
 cases op<;>first
  |(exact absurd rfl eM.1)
  |(exact absurd rfl eM.2)
  |simp[binOp]
theorem T9{op:BinOp}{k:IntKind}{x y:Int}{v:ad}(h:arith op k x y=some v)(eM:op≠ .shl/\op≠ .shr)(t:TypeId):
  ∃u,(binOp op t (.int k x) (.int k y)).run P w=.ok u w/\bz μ v u:=by
 rw[T8 op t k x y eM]
 cases op<;>simp only[arith] at h
 case shl=>cases h
 case shr=>cases h
 case quo=>
  split at h
  · cases h
  · rename_i aZ;cases h;exact⟨_,by simp only[Op.intDiv,if_neg aZ];rfl,rfl⟩
 case rem=>
  split at h
  · cases h
  · rename_i aZ;cases h;exact⟨_,by simp only[Op.intDiv,if_neg aZ];rfl,rfl⟩
 all_goals (cases h;exact⟨_,rfl,rfl⟩)
theorem L2{op:BinOp}{k cO:IntKind}{x y:Int}{v:ad}(h:tL op k x y=some v)(t:TypeId):
  ∃u,(binOp op t (.int k x) (.int cO y)).run P w=.ok u w/\bz μ v u:=by
 unfold tL at h
 split at h
 · cases h
 · rename_i aZ
   cases op<;>simp only[] at h<;>first
    |(cases h;done)
    |(cases h;exact⟨_,by simp[binOp,Op.shift,aZ],rfl⟩)
theorem L3(b:ByteArray):∀(n i:Nat) (r:List UInt8),b.size-i=n->ByteArray.toList.loop b i r=r.reverse++b.data.toList.drop i
 |0,i,r,h=>by
  rw[ByteArray.toList.loop]
  have al:b.data.toList.length=b.size:=Array.length_toList
  rw[if_neg (by omega),List.drop_eq_nil_of_le (by omega)];simp
 |n+1,i,r,h=>by
  rw[ByteArray.toList.loop]
  have al:b.data.toList.length=b.size:=Array.length_toList
  rw[if_pos (by omega),L3 b n (i+1) _ (by omega)]
  rw[List.drop_eq_getElem_cons (i:=i) (by omega)]
  have:b.get! i=b.data.toList[i]'(by omega):=by
   have ae:i<b.data.size:=by have:=Array.length_toList (xs:=b.data);omega
   show b.data[i]! =_
   rw[getElem!_pos b.data i ae];simp
  simp[this]
theorem ua(s:ByteArray):s.toList=s.data.toList:=by
 unfold ByteArray.toList
 rw[L3 s _ 0 [] rfl];simp
theorem nP:∀a b:List UInt8,c1 a b=(a==b)
 |[],[]=>rfl
 |[],_::_=>rfl
 |_::_,[]=>rfl
 |a::x,b::y=>by
  have bl:=nP x y
  simp only[c1,List.cons_beq_cons]
  cases e:Nat.beq a.toNat b.toNat with
  |true=>
   have:a=b:=UInt8.toNat_inj.1 (Nat.eq_of_beq_eq_true e)
   subst this;simp[bl]
  |false=>
   have:(a==b)=false:=by
    rw[beq_eq_false_iff_ne];intro h;subst h;simp at e
   simp[this]
theorem Gt:∀a b:List UInt8,eA a b=Op.bytesLess a b
 |[],[]=>rfl
 |[],_::_=>rfl
 |_::_,[]=>rfl
 |a::x,b::y=>by
  have bl:=Gt x y
  simp only[eA,Op.bytesLess]
  cases e:Nat.beq a.toNat b.toNat with
  |true=>
   have:a=b:=UInt8.toNat_inj.1 (Nat.eq_of_beq_eq_true e)
   subst this;simp[bl]
  |false=>
   have I:(a==b)=false:=by
    rw[beq_eq_false_iff_ne];intro h;subst h;simp at e
   have ae:decide (a<b)=Nat.blt a.toNat b.toNat:=by
    rw[Bool.eq_iff_iff];simp[UInt8.lt_iff_toNat_lt]
   simp[I,ae]
theorem L4:∀a b:List UInt8,(Op.bytesLess a b||(a==b))=!Op.bytesLess b a
 |[],[]=>rfl
 |[],_::_=>rfl
 |_::_,[]=>rfl
 |a::x,b::y=>by
  have bl:=L4 x y
  simp only[Op.bytesLess,List.cons_beq_cons]
  by_cases h:a=b
  · subst h
    have:¬(a<a):=UInt8.lt_irrefl a
    simpa[this] using bl
  · have dr:(a==b)=false:=beq_eq_false_iff_ne.2 h
    have T_:(b==a)=false:=beq_eq_false_iff_ne.2 (λe=>h e.symm)
    simp only[dr,T_,Bool.false_and,Bool.or_false]
    rw[Bool.eq_iff_iff]
    simp only[decide_eq_true_eq,Bool.not_eq_true',decide_eq_false_iff_not,UInt8.lt_iff_toNat_lt]
    have:a.toNat≠b.toNat:=λe=>h (UInt8.toNat_inj.1 e)
    omega
theorem Ua{op:BinOp}{a b:ByteArray}{v:ad}(h:hL op a.data.toList b.data.toList=some v)(t:TypeId):∃u,(binOp op t (.string a) (.string b)).run P w=.ok u w/\bz μ v u:=by
 have aV:=ua a
 have ag:=ua b
 have I:=nP a.data.toList b.data.toList
 have ae:=Gt a.data.toList b.data.toList
 have ax:=Gt b.data.toList a.data.toList
 have bm:=L4 a.data.toList b.data.toList
 have qs:a.data.toList.length=a.size:=Array.length_toList
 have Ub:b.data.toList.length=b.size:=Array.length_toList
 cases op<;>simp only[hL] at h
 case add=>
  split at h
  · cases h
  · rename_i aA
    cases h
    refine⟨.string (a++b),?_,⟨a++b,rfl,by simp[ByteArray.data_append]⟩⟩
    rw[qs,Ub] at aA
    simp only[binOp,Op.stringOp]
    rw[if_neg aA];rfl
 case eql=>cases h;exact⟨_,rfl,congrArg Value.bool (by rw[aV,ag,I])⟩
 case neq=>cases h;exact⟨_,rfl,congrArg Value.bool (by rw[aV,ag,I])⟩
 case lss=>cases h;exact⟨_,rfl,congrArg Value.bool (by rw[aV,ag,ae])⟩
 case leq=>cases h;exact⟨_,rfl,congrArg Value.bool (by rw[aV,ag,ax];exact bm)⟩
 case gtr=>cases h;exact⟨_,rfl,congrArg Value.bool (by rw[aV,ag,ax,bm,Bool.not_not])⟩
 case geq=>cases h;exact⟨_,rfl,congrArg Value.bool (by rw[aV,ag,ae])⟩
 all_goals cases h
def pF(μ:bI):Option ad->Option Value->Prop
 |none,none=>True
 |some a,some v=>bz μ a v
 |_,_=>False
theorem pF.map(g:Operand->ad)(cP:Operand->Value)(ar:∀x,bz μ (g x) (cP x))(o:Option Operand):pF μ (o.map g) (o.map cP):=by
 cases o with
 |none=>trivial
 |some x=>exact ar x
theorem L5{a:ad}{n:Nat}(h:fe a=some n){v:Value}(aI:bz μ a v):∃k,v=.int k (n:Int):=by
 unfold fe at h
 split at h
 · rename_i k m;cases h;exact⟨k,aI⟩
 · cases h
theorem Gu{n y:Nat}{k:IntKind}(h:n<=y)(c:BoundsCode):(Instr.sliceBound (.int k (n:Int)) y c).run P w=.ok n w:=by
 simp only[Instr.sliceBound,asIntOf,Sem.run_bind,Sem.run_pure,Result.andThen_ok]
 rw[if_pos ⟨by omega,by omega⟩]
 simp
theorem L6{d n:Nat}{o:Option ad}{o':Option Value}(h:hU d o=some n)(ao:pF μ o o'):(o'=none/\n=d/\o=none)\/∃k a,o=some a/\o'=some (.int k (n:Int)):=by
 cases o with
 |none=>cases o' with
  |none=>simp[hU] at h;exact .inl ⟨rfl,h.symm,rfl⟩
  |some _=>exact ao.elim
 |some a=>cases o' with
  |none=>exact ao.elim
  |some v=>obtain⟨k,e⟩:=L5 (μ:=μ) h ao;exact .inr ⟨k,a,rfl,by rw[e]⟩
theorem qt{len cap l h m:Nat}{lo hi mx:Option ad}{oL fi mx':Option Value}(gM:pF μ lo oL)(lP:pF μ hi fi)(j8:pF μ mx mx')
  (ag:bounds len cap lo hi mx=some (l,h,m))(b:Bool):(Instr.sliceBounds b len cap oL fi mx').run P w=.ok (l,h,m) w/\l<=h/\h<=m/\m<=cap/\(mx=none->m=cap):=by
 unfold bounds at ag
 cases em:hU cap mx with
 |none=>rw[em] at ag;cases ag
 |some a3=>
  rw[em] at ag
  simp only at ag
  cases hm:Nat.ble a3 cap with
  |false=>rw[hm] at ag;cases ag
  |true=>
   rw[hm] at ag
   simp only at ag
   have sA:=Nat.le_of_ble_eq_true hm
   split at ag
   · cases ag
   · rename_i au Dk
     cases Gv:Nat.ble au a3 with
     |false=>rw[Gv] at ag;cases ag
     |true=>
      rw[Gv] at ag
      simp only at ag
      have L7:=Nat.le_of_ble_eq_true Gv
      cases el:hU 0 lo with
      |none=>rw[el] at ag;cases ag
      |some bt=>
       rw[el] at ag
       simp only at ag
       cases aA:Nat.ble bt au with
       |false=>rw[aA] at ag;cases ag
       |true=>
        rw[aA] at ag
        simp only[Option.some.injEq,Prod.mk.injEq] at ag
        obtain⟨rfl,rfl,rfl⟩:=ag
        have pG:=Nat.le_of_ble_eq_true aA
        have Uc:(fi=none/\mx'=none/\au=len)\/∃k,fi=some (.int k (au:Int)):=by
         cases hi with
         |none=>cases fi with
          |some _=>exact lP.elim
          |none=>cases mx with
           |some _=>simp at Dk
           |none=>cases mx' with
            |some _=>exact j8.elim
            |none=>simp at Dk;exact .inl ⟨rfl,rfl,Dk.symm⟩
         |some a=>cases fi with
          |none=>exact lP.elim
          |some v=>
           have hO:fe a=some au:=by cases mx<;>simpa using Dk
           obtain⟨k,e⟩:=L5 (μ:=μ) hO lP
           exact .inr ⟨k,by rw[e]⟩
        refine⟨?_,pG,L7,sA,λe=>by rw[e] at em;simp[hU] at em;exact em.symm⟩
        rcases L6 em j8 with⟨aG,aE,_⟩|⟨bG,_,_,aG⟩<;>rcases Uc with⟨bH,eu,eZ⟩|⟨b0,bH⟩<;>rcases L6 el gM with⟨hd,hA,_⟩|⟨dF,_,_,hd⟩<;>
         first
         |(exfalso;simp[aG] at eu;done)
         |(subst_vars;simp[Instr.sliceBounds,Gu sA,Gu L7,Gu pG])
end
end bg
namespace bg
open Go
section
variable {P:Program} {μ:bI} {H:ab} {w:World}
theorem Ud(t:ByteArray)(l h:Nat)(au:h<=t.size):(t.extract l h).data.toList=List.take (h-l) (j4 l t.data.toList):=by
 rw[pB]
 simp only[ByteArray.data_extract,Array.toList_extract,List.extract_eq_take_drop]
theorem Al{m n:Nat}(h:m<=n):Nat.ble m n=true:=Nat.ble_eq_true_of_le h
theorem Gw{len k c:Nat}{lo hi mx:Option ad}{l h m:Nat}(ag:bounds len k lo hi mx=some (l,h,m))(ay:k<=c):bounds len c lo hi mx=some (l,h,if mx.isNone then c else m):=by
 have fin:∀(a3 b7:Nat) (E:Option Nat),a3<=b7->
   (match E with
   |none=>none
   |some au=>match Nat.ble au a3 with
    |false=>none
    |true=>match hU 0 lo with
     |none=>none
     |some l=>match Nat.ble l au with
      |false=>none
      |true=>some (l,au,a3))=some (l,h,m)->
   (match E with
   |none=>none
   |some au=>match Nat.ble au b7 with
    |false=>none
    |true=>match hU 0 lo with
     |none=>none
     |some l=>match Nat.ble l au with
      |false=>none
      |true=>some (l,au,b7))=some (l,h,b7):=by
  intro a3 b7 E hm e4
  cases E with
  |none=>cases e4
  |some au=>
   simp only at e4⊢
   cases I:Nat.ble au a3 with
   |false=>rw[I] at e4;cases e4
   |true=>
    rw[I] at e4
    rw[Al (Nat.le_trans (Nat.le_of_ble_eq_true I) hm)]
    simp only at e4⊢
    cases aA:hU 0 lo with
    |none=>rw[aA] at e4;cases e4
    |some bt=>
     rw[aA] at e4
     simp only at e4⊢
     cases aN:Nat.ble bt au with
     |false=>rw[aN] at e4;cases e4
     |true=>rw[aN] at e4;simp only[Option.some.injEq,Prod.mk.injEq] at e4⊢;exact⟨e4.1,e4.2.1,trivial⟩
 unfold bounds at ag⊢
 cases mx with
 |none=>
  have aG:hU k none=some k:=rfl
  have aE:hU c none=some c:=rfl
  rw[aG] at ag;rw[aE]
  simp only at ag⊢
  rw[Al (Nat.le_refl k)] at ag;rw[Al (Nat.le_refl c)]
  simp only[Option.isNone_none,if_true] at ag⊢
  cases hi with
  |none=>exact fin k c (some len) ay ag
  |some a=>exact fin k c (fe a) ay ag
 |some vJ=>
  have aG:hU k (some vJ)=fe vJ:=rfl
  have aE:hU c (some vJ)=fe vJ:=rfl
  rw[aG] at ag;rw[aE]
  cases em:fe vJ with
  |none=>rw[em] at ag;cases ag
  |some a3=>
   rw[em] at ag
   simp only at ag⊢
   cases I:Nat.ble a3 k with
   |false=>rw[I] at ag;cases ag
   |true=>
    rw[I] at ag
    rw[Al (Nat.le_trans (Nat.le_of_ble_eq_true I) ay)]
    simp only[Option.isNone_some,Bool.false_eq_true,if_false] at ag⊢
    have Ue:a3=m:=by
     cases hi<;>simp only at ag
     · cases ag
     · split at ag<;>try cases ag
       split at ag<;>try cases ag
       split at ag<;>try cases ag
       split at ag<;>first|cases ag;rfl|cases ag
    subst Ue
    cases hi<;>exact ag
theorem Uf(au:bK μ H w){t:TypeId}{x:ad}{bR:Value}(aa:bz μ x bR){lo hi mx:Option ad}{oL fi mx':Option Value}(gM:pF μ lo oL)(lP:pF μ hi fi)(j8:pF μ mx mx'){v:ad}
  (h:dC P H t x lo hi mx=some v):fP P μ H w (Instr.sliceAt t bR oL fi mx') v H:=by
 unfold dC at h
 split at h
 ·
  rename_i s hu
  obtain⟨bs,rfl,rfl⟩:=aa
  cases mx with
  |some _=>cases h
  |none=>
   simp only at h
   cases mx' with
   |some _=>exact j8.elim
   |none=>
    split at h
    · rename_i l ag m gr
      cases h
      have bJ:bs.data.toList.length=bs.size:=Array.length_toList
      rw[bJ] at gr
      obtain⟨r1,r2,e5,gh,_⟩:=qt (P:=P) (w:=w) gM lP (μ:=μ) (mx:=none) (mx':=none) trivial gr false
      refine .same au (v':=.string (bs.extract l ag)) ?_ ⟨_,rfl,Ud _ _ _ (by omega)⟩
      simp[Instr.sliceAt,Instr.slice,cl hu,r1]
    · cases h
 ·
  rename_i e hu
  cases aa
  split at h
  · rename_i sz r al gr
    cases h
    obtain⟨l,ag,m⟩:=r
    obtain⟨r1,r2,e5,gh,_⟩:=qt (P:=P) (w:=w) gM lP j8 gr true
    have:m=0/\l=0/\ag=0:=by omega
    obtain⟨rfl,rfl,rfl⟩:=this
    exact .same au (v':=.slice none 0 0) (by simp[Instr.sliceAt,Instr.slice,cl hu,r1,run_sizeOf al]) rfl
  · cases h
 ·
  rename_i e b off len cap hu
  obtain⟨i,pH,ah⟩:=aa
  cases ah
  split at h
  · rename_i sz l ag m al gr
    cases h
    obtain⟨r1,r2,e5,gh,_⟩:=qt (P:=P) (w:=w) gM lP j8 gr true
    refine .same au (v':=.slice (some ⟨i.bx,i.base+(if m=l then off else off+l*sz),none⟩) (ag-l) (m-l)) ?_ ⟨i,pH,rfl⟩
    by_cases e:m=l
    · simp[Instr.sliceAt,Instr.slice,cl hu,r1,run_sizeOf al,e]
    · simp[Instr.sliceAt,Instr.slice,cl hu,r1,run_sizeOf al,e,add_plain,Nat.add_assoc]
  · cases h
 ·
  rename_i e b off len hK hu
  obtain⟨i,pH,c,rfl,tY,bJ⟩:=aa
  split at h
  · rename_i sz al
    split at h
    · rename_i L8
      subst L8
      cases mx with
      |none=>
       cases mx' with
       |some _=>exact j8.elim
       |none=>
        simp only at h
        split at h
        · rename_i l ag m gr
          have Am:bounds len c lo hi none=some (l,ag,c):=Gw gr tY
          obtain⟨r1,r2,e5,gh,_⟩:=qt (P:=P) (w:=w) gM lP (μ:=μ) (mx:=none) (mx':=none) trivial Am true
          obtain⟨_,a2,bX,eG,_⟩:=qt (P:=P) (w:=w) gM lP (μ:=μ) (mx:=none) (mx':=none) trivial gr true
          have fB:(Instr.sliceAt t (.slice (some ⟨i.bx,i.base+off,none⟩) len c) oL fi none).run P w=.ok (.slice (some (if c=l then⟨i.bx,i.base+off,none⟩ else⟨i.bx,i.base+off+l*sz,none⟩)) (ag-l) (c-l)) w:=by
           by_cases e:c=l
           · subst e;simp[Instr.sliceAt,Instr.slice,cl hu,r1,run_sizeOf al]
           · simp[Instr.sliceAt,Instr.slice,cl hu,r1,run_sizeOf al,e,add_plain]
          split at h
          · rename_i Gx
            subst Gx
            cases h
            refine .same au fB ⟨i,pH,c,?_,by omega,bJ⟩
            by_cases e:c=0
            · simp[e]
            · simp[e]
          · rename_i Gx
            split at h
            · rename_i cB
              cases h
              simp only[Nat.blt_eq] at cB
              refine .same au fB ⟨i,pH,c-l,?_,by omega,?_⟩
              · rw[if_neg (by omega)];simp[Nat.add_assoc]
              · have:c*sz=l*sz+(c-l)*sz:=by rw[<-Nat.add_mul];congr 1;omega
                omega
            · rename_i cB
              cases h
              have An:¬l<len:=by simpa[Nat.blt_eq] using cB
              have h0:ag-l=0:=by omega
              rw[h0] at fB
              exact .same au fB ⟨i,pH,rfl,_,c-l,rfl⟩
        · cases h
      |some vJ=>
       simp only at h
       split at h
       · rename_i l ag m gr
         cases h
         obtain⟨_,a2,bX,eG,_⟩:=qt (P:=P) (w:=w) gM lP j8 gr true
         have Am:bounds len c lo hi (some vJ)=some (l,ag,m):=Gw gr tY
         obtain⟨r1,r2,e5,gh,_⟩:=qt (P:=P) (w:=w) gM lP j8 Am true
         refine .same au (v':=.slice (some ⟨i.bx,i.base+(if m=l then off else off+l*sz),none⟩) (ag-l) (m-l)) ?_ ⟨i,pH,rfl⟩
         by_cases e:m=l
         · simp[Instr.sliceAt,Instr.slice,cl hu,r1,run_sizeOf al,e]
         · simp[Instr.sliceAt,Instr.slice,cl hu,r1,run_sizeOf al,e,add_plain,Nat.add_assoc]
       · cases h
    · cases h
  · cases h
 ·
  rename_i e b off len hu
  obtain⟨i,pH,rfl,a,c,rfl⟩:=aa
  split at h
  · rename_i sz r al gr
    cases h
    obtain⟨l,ag,m⟩:=r
    obtain⟨_,a2,bX,eG,gi⟩:=qt (P:=P) (w:=w) gM lP j8 gr true
    have:m=0/\l=0/\ag=0:=by omega
    obtain⟨rfl,rfl,rfl⟩:=this
    have Am:bounds 0 c lo hi mx=some (0,0,(if mx.isNone then c else 0)):=Gw gr (Nat.zero_le _)
    obtain⟨r1,r2,e5,gh,_⟩:=qt (P:=P) (w:=w) gM lP j8 Am true
    refine .same au (v':=.slice (some a) 0 ((if mx.isNone then c else 0)-0)) ?_ ⟨i,pH,rfl,a,_,rfl⟩
    have aV:a.add (0*sz)=a:=by simp[Addr.add]
    simp[Instr.sliceAt,Instr.slice,cl hu,r1,run_sizeOf al,Addr.add]
  · cases h
 ·
  rename_i n e b off hu
  obtain⟨i,pH,rfl⟩:=aa
  split at h
  · rename_i sz l ag m al gr
    cases h
    obtain⟨r1,r2,e5,gh,_⟩:=qt (P:=P) (w:=w) gM lP j8 gr false
    refine .same au (v':=.slice (some ⟨i.bx,i.base+(if m=l then off else off+l*sz),none⟩) (ag-l) (m-l)) ?_ ⟨i,pH,rfl⟩
    by_cases e:m=l
    · simp[Instr.sliceAt,Instr.sureAddr,cl hu,r1,run_sizeOf al,e]
    · simp[Instr.sliceAt,Instr.sureAddr,cl hu,r1,run_sizeOf al,e,add_plain,Nat.add_assoc]
  · cases h
 ·
  rename_i arr b off hu
  obtain⟨i,pH,rfl⟩:=aa
  split at h
  · rename_i n e rF
    split at h
    · rename_i sz l ag m al gr
      cases h
      obtain⟨r1,r2,e5,gh,_⟩:=qt (P:=P) (w:=w) gM lP j8 gr false
      refine .same au (v':=.slice (some ⟨i.bx,i.base+(if m=l then off else off+l*sz),none⟩) (ag-l) (m-l)) ?_ ⟨i,pH,rfl⟩
      by_cases e:m=l
      · simp[Instr.sliceAt,Instr.slice,asAddr,cl hu,cl rF,r1,run_sizeOf al,e]
      · simp[Instr.sliceAt,Instr.slice,asAddr,cl hu,cl rF,r1,run_sizeOf al,e,add_plain,Nat.add_assoc]
    · cases h
  · cases h
 · cases h
theorem ub{t:TypeId}{off:Nat}{cs:List ad}{l:List Value}(aA:cG μ cs l){v:ad}(h:kp P t cs off=some v):∃u,(part t ⟨l⟩ off).run P w=.ok u w/\bz μ v u:=by
 unfold kp at h
 split at h
 · rename_i n aV aH
   split at h
   · rename_i r ao
     cases h
     rw[pB] at ao
     obtain⟨I,rfl⟩:=vH _ _ _ ao
     refine⟨.agg ⟨(l.drop off).take n⟩,?_,⟨_,rfl,?_⟩⟩
     · simp[part,xW aV,run_sizeOf aH,List.extract_eq_take_drop]
     · refine cG.z_ (by have:=aA.length;simp[this]) λj a aO=>?_
       rw[List.getElem?_take] at aO⊢
       split at aO
       · rename_i Gy
         rw[if_pos Gy]
         rw[List.getElem?_drop] at aO⊢
         exact aA.get aO
       · cases aO
   · cases h
 · rename_i _ aV
   rw[sx] at h
   obtain⟨u,hu,ao⟩:=aA.get h
   refine⟨u,?_,ao⟩
   simp[part,xW aV,hu]
 · cases h
theorem Ug(au:bK μ H w){t:TypeId}{b6:Array Field}{fd:Field}{f:Nat}(hu:P.underlying t=some (.struct b6))(hf:b6[f]? =some fd){cs:List ad}{bR:Value}(aa:bz μ (.agg cs) bR){v:ad}
  (h:kp P fd.type cs fd.offset=some v):fP P μ H w (Instr.field t bR f) v H:=by
 obtain⟨l,rfl,aA⟩:=aa
 obtain⟨u,I,ae⟩:=ub (P:=P) (w:=w) aA h
 exact .same au (v':=u) (by simp[Instr.field,cl hu,hf,asAgg,I]) ae
theorem Uh(au:bK μ H w){s:TypeId}{b6:Array Field}{fd:Field}{f n b off:Nat}(hu:P.underlying s=some (.struct b6))(hf:b6[f]? =some fd)(aH:ef P fd.type=some n)(Ao:n≠0){bR:Value}
  (aa:bz μ (.ptr b off) bR):fP P μ H w (Instr.fieldAt s bR f) (.ptr b (off+fd.offset)) H:=by
 obtain⟨i,hi,rfl⟩:=aa
 refine .same au (v':=.pointer (some ⟨i.bx,i.base+(off+fd.offset),none⟩)) ?_ ⟨i,hi,rfl⟩
 simp[Instr.fieldAt,cl hu,hf,Instr.sureAddr,fieldPlace,run_sizeOf aH,Ao,add_plain,Nat.add_assoc]
theorem Ui(au:bK μ H w){t e:TypeId}{b off n k sz:Nat}{c:ct}{bq:IntKind}(hu:P.underlying t=some (.slice e))(al:ef P e=some sz){bR:Value}(aa:bz μ (.slice b off n c) bR)(ay:k<n):
  fP P μ H w (Instr.indexAt t bR (.int bq (k:Int))) (.ptr b (off+k*sz)) H:=by
 obtain⟨i,hi,ah⟩:=aa
 have ks:∃cap,bR=.slice (some ⟨i.bx,i.base+off,none⟩) n cap:=by
  cases c with
  |exact c=>exact⟨c,ah⟩
  |aL hK=>obtain⟨c,h,_⟩:=ah;exact⟨c,h⟩
  |dead=>obtain⟨h0,_⟩:=ah;omega
 obtain⟨cap,rfl⟩:=ks
 refine .same au (v':=.pointer (some ⟨i.bx,i.base+(off+k*sz),none⟩)) ?_ ⟨i,hi,rfl⟩
 simp only[Instr.indexAt,asIntOf,Sem.run_bind,Sem.run_pure,Result.andThen_ok,cl hu]
 rw[if_pos ⟨by omega,by omega⟩]
 simp[run_sizeOf al,add_plain,Nat.add_assoc]
theorem Uj(au:bK μ H w){t e:TypeId}{b off n k sz:Nat}{bq:IntKind}(hu:P.underlying t=some (.array n e))(al:ef P e=some sz){bR:Value}(aa:bz μ (.ptr b off) bR)(ay:k<n):
  fP P μ H w (Instr.indexAt t bR (.int bq (k:Int))) (.ptr b (off+k*sz)) H:=by
 obtain⟨i,hi,rfl⟩:=aa
 refine .same au (v':=.pointer (some ⟨i.bx,i.base+(off+k*sz),none⟩)) ?_ ⟨i,hi,rfl⟩
 simp only[Instr.indexAt,asIntOf,Sem.run_bind,Sem.run_pure,Result.andThen_ok,cl hu,Instr.sureAddr]
 rw[if_pos ⟨by omega,by omega⟩]
 simp[run_sizeOf al,add_plain,Nat.add_assoc]
theorem Uk(au:bK μ H w){t e:TypeId}{n k sz:Nat}{bq:IntKind}{cs:List ad}(hu:P.underlying t=some (.array n e))(al:ef P e=some sz){bR:Value}(aa:bz μ (.agg cs) bR)(ay:k<n){v:ad}
  (h:kp P e cs (k*sz)=some v):fP P μ H w (Instr.index t bR (.int bq (k:Int))) v H:=by
 obtain⟨l,rfl,aA⟩:=aa
 obtain⟨u,I,ae⟩:=ub (P:=P) (w:=w) aA h
 refine .same au (v':=u) ?_ ae
 simp only[Instr.index,asIntOf,Sem.run_bind,Sem.run_pure,Result.andThen_ok,cl hu]
 rw[if_pos ⟨by omega,by omega⟩]
 simp[run_sizeOf al,I]
theorem Ul(au:bK μ H w){t:TypeId}{k:Nat}{bq:IntKind}{s:List UInt8}(hu:P.underlying t=some .string){bR:Value}(aa:bz μ (.str s) bR){c:UInt8}(h:nth k s=some c):
  fP P μ H w (Instr.index t bR (.int bq (k:Int))) (.int .u8 (Int.ofNat c.toNat)) H:=by
 obtain⟨bs,rfl,rfl⟩:=aa
 rw[sx] at h
 refine .same au (v':=.int .u8 (c.toNat:Int)) ?_ rfl
 have ay:k<bs.data.size:=by
  rcases Nat.lt_or_ge k bs.data.size with aw|aw
  · exact aw
  · rw[List.getElem?_eq_none (by simpa using aw)] at h;cases h
 have ar:bs[k]? =some c:=by
  rw[Array.getElem?_toList] at h
  rw[<-h]
  show(if h:k<bs.size then some bs[k] else none)=_
  have fl:k<bs.size:=ay
  rw[dif_pos fl,Array.getElem?_eq_getElem ay];rfl
 simp only[Instr.index,asIntOf,Sem.run_bind,Sem.run_pure,Result.andThen_ok,cl hu]
 rw[if_pos (by omega)]
 simp[ar]
end
end bg
namespace bg
open Go
section
variable {P:Program} {μ:bI} {H:ab} {w:World}
theorem Dl(μ:bI):∀l:List UInt8,cG μ (dR l) (l.map λb=>.int .u8 b.toNat)
 |[]=>rfl
 |b::l=>⟨_,_,rfl,rfl,Dl μ l⟩
theorem Um(t:ByteArray):(t.extract 0 t.size)=t:=by
 obtain⟨d⟩:=t
 simp[ByteArray.ext_iff,ByteArray.data_extract,ByteArray.size]
theorem Dm(au:bK μ H w){size n:Nat}{x:ad}{bR:Value}(aa:bz μ x bR){cs:List ad}(h:fu H size x=some (n,cs)):
  (Builtin.lenOf bR).run P w=.ok n w/\(∃us:List Value,(Builtin.firstCells size n bR).run P w=.ok ⟨us⟩ w/\cG μ cs us):=by
 cases x<;>simp only[fu] at h<;>try cases h
 · split at h<;>try cases h
   obtain⟨bs,rfl,rfl⟩:=aa
   refine⟨by rw[show bs.data.toList.length=bs.size from Array.length_toList];rfl,_,?_,Dl μ _⟩
   have bJ:bs.data.toList.length=bs.size:=Array.length_toList
   simp only[Builtin.firstCells,Sem.run_pure,bJ,Um]
   congr 1
   apply Array.ext'
   simp
 · cases aa
   exact⟨rfl,[],rfl,rfl⟩
 · rename_i b off len cap
   obtain⟨i,hi,ah⟩:=aa
   cases cap with
   |dead=>
    obtain⟨rfl,a,c,rfl⟩:=ah
    simp at h
    obtain⟨rfl,rfl⟩:=h
    exact⟨rfl,[],by simp[Builtin.firstCells,_root_.Go.loadCells,loadCellsFrom],rfl⟩
   |exact c=>
    cases ah
    simp only at h
    split at h
    · rename_i b5 aA
      cases h
      obtain⟨us,I,ae⟩:=tX (P:=P) au hi aA
      exact⟨rfl,us,by simp only[Builtin.firstCells];exact I,ae⟩
    · cases h
   |aL hK=>
    obtain⟨c,rfl,_⟩:=ah
    simp only at h
    split at h
    · rename_i b5 aA
      cases h
      obtain⟨us,I,ae⟩:=tX (P:=P) au hi aA
      exact⟨rfl,us,by simp only[Builtin.firstCells];exact I,ae⟩
    · cases h
theorem Un{z:Value}(n:Nat){pD:List ad}(a7:cG μ pD z.cells.toList):cG μ (gm n pD) (Builtin.zeroCells z.cells n).toList:=by
 have:=Ah a7 rfl n
 have aA:=a7.length
 have ax:z.cells.toList.length=z.cells.size:=by simp
 rw[aA,ax] at this
 exact this
theorem Uo(need old:Nat)(h:old<need):Builtin.nextslicecap need old<=4*need+2048:=by
 unfold Builtin.nextslicecap
 split
 · omega
 · split
   · omega
   · have ar:∀rounds c,c<=2*need+768->(∀k,k<=rounds->True)->Builtin.growBy need rounds c<=4*need+2048:=by
       intro rounds
       induction rounds with
       |zero=>intro c ah _;simp only[Builtin.growBy];omega
       |succ r bl=>
        intro c ah _
        simp only[Builtin.growBy]
        split
        · omega
        · rename_i cB
          exact bl _ (by omega) (λ_ _=>trivial)
     exact ar 4 old (by omega) (λ_ _=>trivial)
theorem bK.Up{w':World}(h:bK μ H w){b:Nat}{o o':dQ}{i:fO}(ag:H.get b=some o)(gn:o.rA=false)(hi:μ b=some i)
  (al:w'.heap.size=w.heap.size)(bc:∀r,r≠i.bx->w'.heap[r]? =w.heap[r]?)(Ac:w'.os=w.os)(Gp:w'.output=w.output)(Gq:w'.tape=w.tape)(base sz:Nat)
  (ao:rz (gx μ H.n ⟨i.bx,base,sz⟩) o' ⟨i.bx,base,sz⟩ w')(hdr:w.drawn<=w'.drawn:=by first|exact Nat.le_refl _|assumption):
  bK (gx μ H.n ⟨i.bx,base,sz⟩) ((H.set b none).push o') w'/\cA μ H w (gx μ H.n ⟨i.bx,base,sz⟩) ((H.set b none).push o') w':=by
 have hle:=h.qo ⟨i.bx,base,sz⟩
 have oM:b<H.n:=(h.lt b i hi).1
 have xV:H.get b≠none:=by rw[ag];simp
 have h2:∀c,((H.set b none).push o').get c=if c=H.n then some o' else if c=b then none else H.get c:=λc=>by
  rw[ab.hr,ab.dx];rfl
 have sw:∀c,c<H.n->((H.set b none).push o').get c≠none->c≠b/\H.get c≠none:=λc ah aH=>by
  rw[h2,if_neg (by omega)] at aH
  by_cases e:c=b
  · rw[if_pos e] at aH;exact absurd rfl aH
  · rw[if_neg e] at aH;exact⟨e,aH⟩
 constructor
 · refine⟨λc hc j ah aO=>?_,λc d j k ah ai aO ay e=>?_,λc j aO=>?_,λc ah=>?_⟩
   · rw[h2] at ah
     by_cases e:c=H.n
     · rw[if_pos e] at ah;subst e;cases ah;rw[hy] at aO;cases aO;exact ao
     · rw[if_neg e] at ah;rw[iy _ _ e] at aO
       by_cases aE:c=b
       · rw[if_pos aE] at ah;cases ah
       · rw[if_neg aE] at ah
         exact(h.rel c hc j ah aO).mono hle (bc _ λdc=>aE (h.inj c b j i (by rw[ah];simp) ⟨o,ag,gn⟩ aO hi dc))
   · have side:∀c j,c≠H.n->((H.set b none).push o').get c≠none->gx μ H.n ⟨i.bx,base,sz⟩ c=some j->j.bx≠i.bx:=λc j qu ah aO e=>by
       rw[iy _ _ qu] at aO
       obtain⟨a8,a2⟩:=sw c (h.lt c j aO).1 ah
       exact a8 (h.inj c b j i a2 ⟨o,ag,gn⟩ aO hi e)
     by_cases aG:c=H.n
     · by_cases aE:d=H.n
       · rw[aG,aE]
       · subst aG;rw[hy] at aO;cases aO
         exact absurd e.symm (side d k aE (by obtain⟨x,aa,_⟩:=ai;rw[aa];simp) ay)
     · by_cases aE:d=H.n
       · subst aE;rw[hy] at ay;cases ay
         exact absurd e (side c j aG ah aO)
       · rw[iy _ _ aG] at aO;rw[iy _ _ aE] at ay
         exact h.inj c d j k (sw c (h.lt c j aO).1 ah).2 (by
          obtain⟨x,aa,rB⟩:=ai
          rw[h2,if_neg aE] at aa
          split at aa
          · cases aa
          · exact⟨x,aa,rB⟩) aO ay e
   · by_cases e:c=H.n
     · subst e;rw[hy] at aO;cases aO
       have:=(h.lt b i hi).2
       exact⟨by simp,by rw[al];exact this⟩
     · rw[iy _ _ e] at aO
       have:=h.lt c j aO
       exact⟨by simp;omega,by rw[al];exact this.2⟩
   · simp at ah
     rw[h2,if_neg (by omega),if_neg (by omega)];exact h.bound c (by omega)
 · refine⟨hle,by omega,by simp,λc ah aH=>(sw c ah aH).2,λc ah hm=>(by rw[h2,if_neg (by omega),if_neg];intro e;subst e;rw[hi] at hm;cases hm),λr _ aH=>bc r λe=>aH b i xV hi e.symm,λc j I ae=>?_,λc hc j ah tV aO=>?_,Ac,Gp,Gq,hdr⟩
   · by_cases e:c=H.n
     · subst e;rw[hy] at ae;cases ae
       exact⟨Nat.le_refl _,.inr ⟨b,o,i,ag,gn,hi,rfl⟩⟩
     · rw[iy _ _ e,I] at ae;cases ae
   · have dr:c≠b:=by intro e;subst e;rw[ag] at ah;cases ah;rw[gn] at tV;cases tV
     have qu:=(h.lt c j aO).1
     refine⟨by rw[h2,if_neg (by omega),if_neg dr];exact ah,bc _ λe=>dr (h.inj c b j i (by rw[ah];simp) ⟨o,ag,gn⟩ aO hi e)⟩
theorem bK.kill(h:bK μ H w){b:Nat}{o:dQ}{i:fO}(ag:H.get b=some o)(gn:o.rA=false)(hi:μ b=some i):
  bK μ (H.set b none) w/\cA μ H w μ (H.set b none) w:=by
 have sw:∀c,(H.set b none).get c≠none->H.get c≠none:=λc aH=>by
  rw[ab.dx] at aH
  by_cases e:c=b
  · rw[if_pos e] at aH;exact absurd rfl aH
  · rw[if_neg e] at aH;exact aH
 constructor
 · refine⟨λc hc j ah aO=>?_,λc d j k ah ai=>h.inj c d j k (sw c ah) (by
     obtain⟨x,aa,rB⟩:=ai
     rw[ab.dx] at aa
     split at aa
     · cases aa
     · exact⟨x,aa,rB⟩),h.lt,λc ah=>?_⟩
   · rw[ab.dx] at ah
     by_cases e:c=b
     · rw[if_pos e] at ah;cases ah
     · rw[if_neg e] at ah;exact h.rel c hc j ah aO
   · rw[ab.dx]
     split
     · rfl
     · exact h.bound c ah
 · refine⟨ga.refl μ,Nat.le_refl _,Nat.le_refl _,λc _ ah=>sw c ah,λc _ hm=>(by rw[ab.dx,if_neg];intro e;subst e;rw[hi] at hm;cases hm),λ_ _ _=>rfl,λc j I ae=>(by rw[I] at ae;cases ae),λc hc j ah tV aO=>⟨?_,rfl⟩,rfl,rfl,rfl,Nat.le_refl _⟩
   have dr:c≠b:=by intro e;subst e;rw[ag] at ah;cases ah;rw[gn] at tV;cases tV
   rw[ab.dx,if_neg dr];exact ah
theorem bK.drew(h:bK μ H w):bK μ H w.drew:=h.of_heap rfl
theorem cA.drew:cA μ H w μ H w.drew:=cA.of_heap rfl rfl rfl rfl
theorem Uq{need bytes:Nat}(h:mG need bytes=true):(4*need+2048)*bytes<=281474976710656/\need<=281474976710656:=by
 simp only[mG,Nat.ble_eq] at h
 have I:(4*need+2048)*bytes<=(4*need+2048)*(bytes+1):=Nat.mul_le_mul_left _ (by omega)
 have ae:(4*need+2048)*1<=(4*need+2048)*(bytes+1):=Nat.mul_le_mul_left _ (by omega)
 refine⟨Nat.le_trans I h,?_⟩
 have ax:=Nat.le_trans ae h
 rw[Nat.mul_one] at ax
 generalize 281474976710656=q at ax⊢
 omega
theorem Ur{sT e:TypeId}{xT:Option TypeId}{i:TypeInfo}{z:Value}{argTypes:Array TypeId}{ty:TypeId}(h0:argTypes[0]? =some sT)(I:argTypes[1]? =xT)(hu:P.underlying sT=some (.slice e))(aa:rf P xT=true)(hi:P.info? e=some i)
  (a7:∀w:World,(zeroValue e).run P w=.ok z w){base:Option Addr}{sLen sCap n:Nat}{bR:Value}(aA:(Builtin.lenOf bR).run P w=.ok n w){us old:List Value}(hold:(Builtin.firstCells i.size sLen (.slice base sLen sCap)).run P w.drew=.ok ⟨old⟩ w.drew)
  (uc:(Builtin.firstCells i.size n bR).run P w.drew=.ok ⟨us⟩ w.drew)(cB:sCap<sLen+n)(nQ:mG (sLen+n) i.bytes=true):
  ∃nR,sLen+n<=nR/\(Builtin.append_ argTypes ty #[.slice base sLen sCap,bR]).run P w=
   .ok (.slice (some ⟨w.heap.size,0,none⟩) (sLen+n) nR) (w.drew.alloc (.cells (⟨old⟩++⟨us⟩++Builtin.zeroCells z.cells (nR-(sLen+n))) e)):=by
 obtain⟨a3,b7⟩:=Uq nQ
 have Us:=Uo (sLen+n) sCap cB
 have xX:¬(Builtin.nextslicecap (sLen+n) sCap*i.bytes>2^48):=by
  have I:Builtin.nextslicecap (sLen+n) sCap*i.bytes<=(4*(sLen+n)+2048)*i.bytes:=Nat.mul_le_mul_right _ Us
  have ae:(2:Nat)^48=281474976710656:=by rfl
  rw[ae]
  exact Nat.not_lt.2 (Nat.le_trans I a3)
 have Ut:IntKind.max .i64=9223372036854775807:=rfl
 have iN:¬(((sLen+n:Nat):Int)>IntKind.i64.max):=by rw[Ut];omega
 have L9:¬(sLen+n<=sCap):=by omega
 have bJ:∀w:World,(_root_.Go.sizeOf e).run P w=.ok i.size w:=λw=>by simp[_root_.Go.sizeOf,run_typeInfo hi]
 have Dn:(Question.appendCap (sLen+n) sCap e).forced=false:=rfl
 have ud:∀w:World,(typeInfo e).run P w=.ok i w:=λw=>run_typeInfo hi
 have Dp:∀(c:Nat) (cs:Array Value),(_root_.Go.newRow e cs).run P w.drew=.ok ⟨w.heap.size,0,none⟩ (w.drew.alloc (.cells cs e)):=λc cs=>rfl
 refine⟨(Question.appendCap (sLen+n) sCap e).cut (w.tape w.drawn (Question.appendCap (sLen+n) sCap e)),by simp[Question.cut],?_⟩
 cases xT with
 |none=>
  simp only[Builtin.append_,h0,I,List.getElem?_toArray,List.getElem?_cons_zero,List.getElem?_cons_succ,Sem.run_bind,cl hu,Result.andThen_ok,bJ,Sem.run_pure,aA,Bool.false_eq_true,if_false,if_neg L9,ud,iN,false_and,if_neg xX,
   run_choose,Dn,run_askRoom,World.drew_eq,hold,uc,Bool.not_false,if_true,a7,Dp 0]
 |some hW=>
  simp only[rf] at aa
  cases ai:P.underlying hW with
  |none=>rw[ai] at aa;cases aa
  |some d=>
   rw[ai] at aa
   cases d<;>first
   |(cases aa;done)
   |simp only[Builtin.append_,h0,I,List.getElem?_toArray,List.getElem?_cons_zero,List.getElem?_cons_succ,Sem.run_bind,cl hu,cl ai,Result.andThen_ok,bJ,Sem.run_pure,aA,Bool.false_eq_true,if_false,if_neg L9,ud,iN,false_and,if_neg xX,
    run_choose,Dn,run_askRoom,World.drew_eq,hold,uc,Bool.not_false,if_true,a7,Dp 0]
theorem Ap{sT e:TypeId}{xT:Option TypeId}{i:TypeInfo}{argTypes:Array TypeId}{ty:TypeId}(h0:argTypes[0]? =some sT)(I:argTypes[1]? =xT)(hu:P.underlying sT=some (.slice e))(aa:rf P xT=true)(hi:P.info? e=some i)
  {base:Option Addr}{sLen sCap n:Nat}{bR:Value}(aA:(Builtin.lenOf bR).run P w=.ok n w){us:List Value}
  (uc:(Builtin.firstCells i.size n bR).run P w=.ok ⟨us⟩ w)(hle:sLen+n<=sCap):
  (Builtin.append_ argTypes ty #[.slice base sLen sCap,bR]).run P w=match base with
   |some a=>((_root_.Go.storeCells (a.add (sLen*i.size)) us).run P w).andThen λ_ w'=>.ok (.slice base (sLen+n) sCap) w'
   |none=>.ok (.slice base (sLen+n) sCap) w:=by
 have bJ:∀w:World,(_root_.Go.sizeOf e).run P w=.ok i.size w:=λw=>by simp[_root_.Go.sizeOf,run_typeInfo hi]
 cases xT with
 |none=>
  cases base<;>simp only[Builtin.append_,h0,I,List.getElem?_toArray,List.getElem?_cons_zero,List.getElem?_cons_succ,Sem.run_bind,cl hu,Result.andThen_ok,bJ,Sem.run_pure,aA,Bool.false_eq_true,if_false,if_pos hle,Bool.not_false,if_true,uc]
 |some hW=>
  simp only[rf] at aa
  cases ai:P.underlying hW with
  |none=>rw[ai] at aa;cases aa
  |some d=>
   rw[ai] at aa
   cases d<;>first
   |(cases aa;done)
   |cases base<;>simp only[Builtin.append_,h0,I,List.getElem?_toArray,List.getElem?_cons_zero,List.getElem?_cons_succ,Sem.run_bind,cl hu,cl ai,Result.andThen_ok,bJ,Sem.run_pure,aA,Bool.false_eq_true,if_false,if_pos hle,Bool.not_false,if_true,uc]
theorem Uu{l:List ad}(h:l.all ad.de=true):∀a∈l,a.de=true:=λa aV=>List.all_eq_true.1 h a aV
theorem Gz(au:bK μ H w){sT e:TypeId}{xT:Option TypeId}{i:TypeInfo}{z:ad}{argTypes:Array TypeId}{ty:TypeId}(h0:argTypes[0]? =some sT)(I:argTypes[1]? =xT)(hu:P.underlying sT=some (.slice e))(aa:rf P xT=true)
  (hi:P.info? e=some i)(a7:eT P e=some z){base:Option Addr}{sLen sCap n:Nat}{x:ad}{bR:Value}(Aq:bz μ x bR){cs:List ad}(fG:fu H i.size x=some (n,cs)){old:List ad}
  (hold:∃us:List Value,(Builtin.firstCells i.size sLen (.slice base sLen sCap)).run P w.drew=.ok ⟨us⟩ w.drew/\cG μ old us)(Ar:old.length=sLen*i.size)(jb:cs.length=n*i.size)(cB:sCap<sLen+n){v:ad}{H1 a6:ab}(kr:bK μ H1 w)(Uv:cA μ H w μ H1 w)
  {fz:Nat}(ar:l_ H1 e i.bytes i.size (sLen+n) z (old++cs) fz=some (v,a6)):fP P μ H w (Builtin.append_ argTypes ty #[.slice base sLen sCap,bR]) v a6:=by
 obtain⟨gy,L_,rfl,ag⟩:=nO (P:=P) (w:=w) a7
 have Uw:∀w:World,(zeroValue e).run P w=.ok gy w:=λw=>by
  unfold eT at a7
  simp only[hi] at a7
  cases Ma:i.zero with
  |none=>rw[Ma] at a7;cases a7
  |some GA=>
   have a8:∀w:World,(zeroValue e).run P w=.ok GA w:=λw=>by simp[zeroValue,run_typeInfo hi,Ma]
   rw[a8] at L_
   cases L_
   exact a8 w
 obtain⟨aA,us,ku,nf⟩:=Dm (P:=P) au Aq fG
 obtain⟨_,ue,Ux,Mb⟩:=Dm (P:=P) au.drew Aq fG
 obtain⟨os,Ac,Mc⟩:=hold
 unfold l_ at ar
 split at ar
 · rename_i ah
   simp only[Bool.and_eq_true] at ah
   obtain⟨⟨nQ,pE⟩,eL⟩:=ah
   cases ar
   obtain⟨nR,sB,Md⟩:=Ur (P:=P) (w:=w) (ty:=ty) h0 I hu aa hi Uw aA Ac Ux cB nQ
   have jc:=(lO μ gy).cells ag
   have Uy:=Nat.eq_of_beq_eq_true pE
   have Uz:gy.cells.size=i.size:=by have:=jc.length;rw[Uy] at this;simpa using this.symm
   have vK:cG μ (old++cs) (os++ue):=Mc.append Mb
   have UA:os.length=sLen*i.size:=by rw[<-Mc.length,Ar]
   have UB:ue.length=n*i.size:=by rw[<-Mb.length,jb]
   have hmul:(sLen+n)*i.size=sLen*i.size+n*i.size:=Nat.add_mul _ _ _
   have Me:nR*i.size=(sLen+n)*i.size+(nR-(sLen+n))*i.size:=by rw[<-Nat.add_mul,Nat.add_sub_of_le sB]
   have UC:0+nR*i.size=((⟨os⟩:Array Value)++⟨ue⟩++Builtin.zeroCells gy.cells (nR-(sLen+n))).size:=by
    have a8:(⟨os⟩:Array Value).size=sLen*i.size:=UA
    have a2:(⟨ue⟩:Array Value).size=n*i.size:=UB
    have bX:(Builtin.zeroCells gy.cells (nR-(sLen+n))).size=(nR-(sLen+n))*i.size:=by
     unfold Builtin.zeroCells;rw[Array.size_map,Array.size_range,Uz]
    rw[Array.size_append,Array.size_append,a8,a2,bX,Me,hmul]
    omega
   have hle:=kr.drew.qo ⟨w.heap.size,0,nR*i.size⟩
   obtain⟨r1,r2⟩:=kr.drew.alloc (.cells (old++cs) e .aL 0 fz) (.cells (⟨os⟩++⟨ue⟩++Builtin.zeroCells gy.cells (nR-(sLen+n))) e) (nR*i.size)
    ⟨_,0,0,World.heap_alloc_new _ _,λj a aO=>by
      obtain⟨u,oK,ao⟩:=vK.get aO
      refine⟨u,?_,ao.mono hle⟩
      have xY:j<(os++ue).length:=by
       rcases Nat.lt_or_ge j (os++ue).length with h|h
       · exact h
       · rw[List.getElem?_eq_none h] at oK;cases oK
      rw[Nat.zero_add,Array.getElem?_append_left (by simpa using xY)]
      simpa using oK,UC,by
      refine⟨?_,λj _ _ h=>by omega⟩
      simp[Ar,jb];omega⟩
   refine⟨_,_,_,Md,⟨_,hy _ _ _,nR,rfl,sB,by simp⟩,r1,?_⟩
   exact Uv.trans au kr (cA.drew.trans kr kr.drew r2)
 · cases ar
end
end bg
