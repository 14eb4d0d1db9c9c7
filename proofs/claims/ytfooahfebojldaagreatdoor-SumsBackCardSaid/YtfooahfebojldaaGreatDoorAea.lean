/-
  THE ABSTRACT EVALUATOR (the evaluator's definitions; values and memory): a deterministic semantics of loaded code, and the proof that its runs are runs of the program in the model, whatever the tape draws. No condition.
-/
import GoSem.Step
import Derived.Calls
import Derived.Laws.Sem
import Derived.Laws.World
set_option linter.unusedVariables false
set_option linter.unusedSimpArgs false
namespace ay
open Go
inductive cj where
 |exact(n:Nat)
 |aM (gG:Nat)
 |dead
inductive J where
 |bad
 |bool (b:Bool)
 |int (k:IntKind) (n:Int)
 |str (s:List UInt8)
 |bc
 |ptr (b off:Nat)
 |az
 |slice (b off len:Nat) (cap:cj)
 |hz
 |map (r:Nat)
 |fi
 |fn (f:Nat) (first caps:List J)
 |bR (l:Nat)
 |eO
 |iface (t:Nat) (v:J)
 |agg (cs:List J)
 |aD (vs:List J)
 deriving Inhabited
def J.bF:J->Bool
 |.bad|.agg _|.aD _=>false
 |_=>true
def J.cells:J->List J
 |.agg cs=>cs
 |v=>[v]
inductive ib where
 |here|l (p:ib)|r (p:ib)
inductive aU where
 |leaf
 |node (l:aU) (v:J) (r:aU)
def xj:Nat->Nat->ib
 |0,_=>.here
 |f+1,n=>match n with
  |0=>.here
  |m+1=>match Nat.mod m 2 with
   |0=>.l (xj f (Nat.div m 2))
   |_=>.r (xj f (Nat.div m 2))
def hc(n:Nat):ib:=xj n n
def aU.get:ib->aU->J
 |.here,.node _ v _=>v
 |.l p,.node l _ _=>get p l
 |.r p,.node _ _ r=>get p r
 |_,.leaf=>.bad
def aU.DA(l:aU)(v:J)(r:aU):aU:=match l with
 |.leaf=>.node .leaf v r
 |.node a b c=>.node (.node a b c) v r
def aU.DB(l:aU)(v:J)(r:aU):aU:=match r with
 |.leaf=>.node l v .leaf
 |.node a b c=>.node l v (.node a b c)
def aU.set:ib->J->aU->aU
 |.here,x,.node l _ r=>.node l x r
 |.here,x,.leaf=>.node .leaf x .leaf
 |.l p,x,.node l v r=>aU.DA (set p x l) v r
 |.l p,x,.leaf=>aU.DA (set p x .leaf) .bad .leaf
 |.r p,x,.node l v r=>aU.DB l v (set p x r)
 |.r p,x,.leaf=>aU.DB .leaf .bad (set p x .leaf)
inductive eZ where
 |own|aM|ro|fz
 deriving DecidableEq
structure fW where
 key:J
 val:J
 born:Nat
inductive bC where
 |call (f:Nat) (args:List J)
 |collected (r:Nat)
inductive b3 where
 |cells (cs:List J) (el:Nat) (k:eZ) (aW af:Nat)
 |map (es:List fW) (clock:Nat)
 |o4 (s:List UInt8) (pos:Nat)
 |mapIter (m:Option Nat) (since:Nat) (seen:List Nat) (last:Nat)
 |loop (st:LoopState) (gb:Option Code) (fn:Nat) (mj:aU) (params:List Nat) (assign body:Code) (defers:Nat)
 |defrd (calls:Option (List bC))
 |raw (o:Obj)
inductive e0 where
 |leaf
 |node (l:e0) (v:Option b3) (r:e0)
def e0.get:e0->Nat->Option b3
 |.leaf,_=>none
 |.node l v r,n=>match n with
  |0=>v
  |m+1=>match Nat.mod m 2 with
   |0=>get l (Nat.div m 2)
   |_=>get r (Nat.div m 2)
def e0.kX:Nat->e0->Nat->Option b3->e0
 |0,t,_,_=>t
 |f+1,.leaf,n,x=>match n with
  |0=>.node .leaf x .leaf
  |m+1=>match Nat.mod m 2 with
   |0=>.node (kX f .leaf (Nat.div m 2) x) none .leaf
   |_=>.node .leaf none (kX f .leaf (Nat.div m 2) x)
 |f+1,.node l v r,n,x=>match n with
  |0=>.node l x r
  |m+1=>match Nat.mod m 2 with
   |0=>.node (kX f l (Nat.div m 2) x) v r
   |_=>.node l v (kX f r (Nat.div m 2) x)
structure aa where
 t:e0
 n:Nat
def aa.get(h:aa)(b:Nat):Option b3:=h.t.get b
def aa.set(h:aa)(b:Nat)(o:Option b3):aa:=⟨e0.kX (b+1) h.t b o,h.n⟩
def aa.push(h:aa)(o:b3):aa:=⟨e0.kX (h.n+1) h.t h.n (some o),h.n+1⟩
inductive fj where
 |val (v:J) (h:aa)
 |bk (v:J) (h:aa)
 |call (f:Nat) (args:List J) (h:aa)
 |bR (l:Nat) (args:List J) (h:aa)
 |ju (d:bC)
 |sW
 |fail (jg:String)
inductive ax where
 |ret (v:J) (h:aa)
 |bk (v:J) (h:aa)
 |fail (jg:String)
mutual
def n0:Value->J
 |.bool b=>.bool b
 |.int k n=>.int k n
 |.string s=>.str s.data.toList
 |.pointer none=>.bc
 |.slice none 0 0=>.az
 |.map none=>.hz
 |.nilFunc=>.fi
 |.nilIface=>.eO
 |.agg ⟨cs⟩=>.agg (An cs)
 |.tuple ⟨vs⟩=>.aD (An vs)
 |_=>.bad
def An:List Value->List J
 |[]=>[]
 |v::vs=>n0 v::An vs
end
def nth{α:Type}:Nat->List α->Option α
 |_,[]=>none
 |0,a::_=>some a
 |n+1,_::l=>nth n l
def takeN:Nat->List J->Option (List J)
 |0,_=>some []
 |_+1,[]=>none
 |n+1,a::l=>match takeN n l with
  |some r=>some (a::r)
  |none=>none
def iO{α:Type}:Nat->List α->List α
 |0,l=>l
 |_+1,[]=>[]
 |n+1,_::l=>iO n l
def cw:List UInt8->List UInt8->Bool
 |[],[]=>true
 |a::x,b::y=>match Nat.beq a.toNat b.toNat with
  |true=>cw x y
  |false=>false
 |_,_=>false
def fq:List UInt8->List UInt8->Bool
 |_,[]=>false
 |[],_::_=>true
 |a::x,b::y=>match Nat.beq a.toNat b.toNat with
  |true=>fq x y
  |false=>Nat.blt a.toNat b.toNat
def dZ(x y:Int):Bool:=decide (x<y)
def fE(x y:Int):Bool:=decide (x<=y)
def de(x y:Int):Bool:=x==y
def loadCells(h:aa)(b off n:Nat):Option (List J):=
 match h.get b with
 |some (.cells cs _ _ _ _)=>takeN n (iO off cs)
 |_=>none
def aA(h:aa)(b off:Nat):Option J:=
 match h.get b with
 |some (.cells cs _ _ _ _)=>nth off cs
 |_=>none
def jv(k:eZ)(aW af off n:Nat):Bool:=
 match k with
 |.ro|.fz=>false
 |_=>Nat.ble af aW||Nat.ble (off+n) aW||Nat.ble af off
def eP:Nat->List J->List J->Option (List J)
 |0,[],cs=>some cs
 |0,_::_,[]=>none
 |0,v::vs,_::cs=>match v.bF with
  |true=>match eP 0 vs cs with
   |some r=>some (v::r)
   |none=>none
  |false=>none
 |_+1,[],cs=>some cs
 |_+1,_::_,[]=>none
 |n+1,vs,c::cs=>match eP n vs cs with
  |some r=>some (c::r)
  |none=>none
def storeCells(h:aa)(b off:Nat)(vs:List J):Option aa:=
 match h.get b with
 |some (.cells cs el k aW af)=>
  match jv k aW af off vs.length with
  |true=>match eP off vs cs with
   |some bS=>some (h.set b (some (.cells bS el k aW af)))
   |none=>none
  |false=>none
 |_=>none
def newRow(h:aa)(el:Nat)(cs:List J):Option (Nat×aa):=
 match cs.all J.bF with
 |true=>some (h.n,h.push (.cells cs el .own 0 0))
 |false=>none
def lf(P:Program)(t:TypeId):Option Bool:=
 match P.underlying t with
 |some (.struct _)=>some true
 |some (.array _ _)=>some true
 |some _=>some false
 |none=>none
def dm(P:Program)(t:TypeId):Option Nat:=match P.info? t with
 |some i=>some i.size
 |none=>none
def eG(P:Program)(t:TypeId):Option J:=match P.info? t with
 |some i=>match i.zero with
  |some z=>match n0 z with
   |.bad=>none
   |a=>some a
  |none=>none
 |none=>none
def lg(P:Program)(t:TypeId)(cs:List J)(off:Nat):Option J:=
 match lf P t,dm P t with
 |some true,some n=>match takeN n (iO off cs) with
  |some r=>some (.agg r)
  |none=>none
 |some false,_=>nth off cs
 |_,_=>none
def jR(place:Nat->Option (Nat×Nat))(cells:List J):List (Nat×J)->Option (List J)
 |[]=>some cells
 |(i,v)::rest=>
  match v with
  |.bad=>none
  |v=>match place i with
   |none=>none
   |some (off,size)=>
    match Nat.beq v.cells.length size&&Nat.ble (off+size) cells.length with
    |true=>match eP off v.cells cells with
     |some Qu=>jR place Qu rest
     |none=>none
    |false=>none
def e8{α:Type}:Nat->List α->List α
 |0,_=>[]
 |n+1,l=>l++e8 n l
def eqFields(P:Program)(E:TypeId->J->J->Option Bool)(xs ys:List J):List Field->Option Bool
 |[]=>some true
 |f::ct=>match decide (f.name= "_") with
  |true=>eqFields P E xs ys ct
  |false=>match lg P f.type xs f.offset,lg P f.type ys f.offset with
   |some a,some b=>match E f.type a b with
    |some true=>eqFields P E xs ys ct
    |r=>r
   |_,_=>none
def xk(P:Program)(E:TypeId->J->J->Option Bool)(e:TypeId)(sz:Nat)(xs ys:List J):Nat->Nat->Option Bool
 |0,_=>some true
 |n+1,i=>match lg P e xs (i*sz),lg P e ys (i*sz) with
  |some a,some b=>match E e a b with
   |some true=>xk P E e sz xs ys n (i+1)
   |r=>r
  |_,_=>none
def DC(h:aa)(a i b j:Nat):Option Bool:=
 match Nat.beq a b with
 |true=>some (Nat.beq i j)
 |false=>match h.get a,h.get b with
  |some (.cells _ _ .own 0 0),some (.cells _ _ .own 0 0)=>some false
  |_,_=>none
def ic(P:Program)(h:aa):Nat->TypeId->J->J->Option Bool
 |0,_,_,_=>none
 |d+1,t,x,y=>
  match P.underlying t with
  |none=>none
  |some .bool=>match x,y with
   |.bool a,.bool b=>some (a==b)
   |_,_=>none
  |some (.int _)=>match x,y with
   |.int j a,.int k b=>if j=k then some (de a b) else none
   |_,_=>none
  |some .string=>match x,y with
   |.str a,.str b=>some (cw a b)
   |_,_=>none
  |some (.pointer e)=>match x,y with
   |.bc,.bc=>some true
   |.bc,.ptr _ _=>some false
   |.ptr _ _,.bc=>some false
   |.ptr a i,.ptr b j=>match dm P e with
    |some (_+1)=>DC h a i b j
    |_=>none
   |_,_=>none
  |some (.slice _)=>match x,y with
   |.az,.az=>some true
   |.az,.slice _ _ _ _=>some false
   |.slice _ _ _ _,.az=>some false
   |_,_=>none
  |some (.map _ _)=>match x,y with
   |.hz,.hz=>some true
   |.hz,.map _=>some false
   |.map _,.hz=>some false
   |_,_=>none
  |some (.func _ _ _)=>match x,y with
   |.fi,.fi=>some true
   |.fi,.fn _ _ _=>some false
   |.fn _ _ _,.fi=>some false
   |_,_=>none
  |some (.interface _)=>match x,y with
   |.eO,.eO=>some true
   |.eO,.iface _ _=>some false
   |.iface _ _,.eO=>some false
   |.iface a v,.iface b w=>match Nat.beq a b with
    |false=>some false
    |true=>match P.info? a with
     |some i=>match i.comparable with
      |true=>ic P h d a v w
      |false=>none
     |none=>none
   |_,_=>none
  |some (.struct ct)=>match x,y with
   |.agg xs,.agg ys=>match P.stoodInHeld t with
    |true=>none
    |false=>eqFields P (ic P h d) xs ys ct.toList
   |_,_=>none
  |some (.array n e)=>match x,y with
   |.agg xs,.agg ys=>match dm P e with
    |some sz=>xk P (ic P h d) e sz xs ys n 0
    |none=>none
   |_,_=>none
  |some _=>none
def rk(P:Program)(t:TypeId)(x y:Operand)(a b:J):Bool:=
 match a,b with
 |.eO,.eO=>(x matches .const _)||(y matches .const _)
 |.agg _,.agg _=>!P.eqGuardType P.depth t
 |_,_=>true
def arith(op:BinOp)(k:IntKind)(x y:Int):Option J:=
 match op with
 |.add=>some (.int k (k.wrap (x+y)))
 |.sub=>some (.int k (k.wrap (x-y)))
 |.mul=>some (.int k (k.wrap (x*y)))
 |.quo=>if y=0 then none else some (.int k (k.wrap (x.tdiv y)))
 |.rem=>if y=0 then none else some (.int k (x.tmod y))
 |.and=>some (.int k (k.wrap (BitVec.ofInt k.bits x&&&BitVec.ofInt k.bits y).toNat))
 |.or=>some (.int k (k.wrap (BitVec.ofInt k.bits x|||BitVec.ofInt k.bits y).toNat))
 |.xor=>some (.int k (k.wrap (BitVec.ofInt k.bits x^^^BitVec.ofInt k.bits y).toNat))
 |.andNot=>some (.int k (k.wrap (BitVec.ofInt k.bits x&&& ~~~BitVec.ofInt k.bits y).toNat))
 |.eql=>some (.bool (de x y))
 |.neq=>some (.bool (!de x y))
 |.lss=>some (.bool (dZ x y))
 |.leq=>some (.bool (fE x y))
 |.gtr=>some (.bool (dZ y x))
 |.geq=>some (.bool (fE y x))
 |_=>none
def ml(op:BinOp)(k:IntKind)(x y:Int):Option J:=
 if y<0 then none else
 match op with
 |.shl=>some (.int k (k.wrap (x*2^(min y.toNat k.bits))))
 |.shr=>some (.int k (x.fdiv (2^(min y.toNat k.bits))))
 |_=>none
def o5(op:BinOp)(x y:List UInt8):Option J:=
 match op with
 |.add=>if((x.length+y.length:Nat):Int)>IntKind.i64.max then none else some (.str (x++y))
 |.eql=>some (.bool (cw x y))
 |.neq=>some (.bool (!cw x y))
 |.lss=>some (.bool (fq x y))
 |.leq=>some (.bool (!fq y x))
 |.gtr=>some (.bool (fq y x))
 |.geq=>some (.bool (!fq x y))
 |_=>none
def er(P:Program)(h:aa)(op:BinOp)(t:TypeId)(kB jw:Operand)(x y:J):Option J:=
 match x,y with
 |.int k a,.int ew b=>
  match op with
  |.shl|.shr=>ml op k a b
  |_=>if k=ew then arith op k a b else none
 |.str a,.str b=>o5 op a b
 |x,y=>
  match op with
  |.eql=>if rk P t kB jw x y then(match ic P h 100 t x y with
   |some b=>some (.bool b)
   |none=>none) else none
  |.neq=>if rk P t kB jw x y then(match ic P h 100 t x y with
   |some b=>some (.bool (!b))
   |none=>none) else none
  |_=>none
def fF:J->Option Nat
 |.int _ (.ofNat n)=>some n
 |_=>none
def jx(d:Nat):Option J->Option Nat
 |none=>some d
 |some v=>fF v
def bounds(len cap:Nat)(aW af mx:Option J):Option (Nat×Nat×Nat):=
 match jx cap mx with
 |none=>none
 |some m=>match Nat.ble m cap with
  |false=>none
  |true=>match(match af,mx with
     |none,none=>some len
     |none,some _=>none
     |some v,_=>fF v) with
   |none=>none
   |some aj=>match Nat.ble aj m with
    |false=>none
    |true=>match jx 0 aW with
     |none=>none
     |some l=>match Nat.ble l aj with
      |false=>none
      |true=>some (l,aj,m)
def dR(P:Program)(h:aa)(t:TypeId)(x:J)(aW af mx:Option J):Option J:=
 match P.underlying t,x with
 |some .string,.str s=>match mx with
  |some _=>none
  |none=>match bounds s.length s.length aW af none with
   |some (l,aj,_)=>some (.str (List.take (aj-l) (iO l s)))
   |none=>none
 |some (.slice e),.az=>match dm P e,bounds 0 0 aW af mx with
  |some _,some _=>some .az
  |_,_=>none
 |some (.slice e),.slice b off len (.exact cap)=>match dm P e,bounds len cap aW af mx with
  |some sz,some (l,aj,m)=>some (.slice b (if m=l then off else off+l*sz) (aj-l) (.exact (m-l)))
  |_,_=>none
 |some (.slice e),.slice b off len (.aM gG)=>match dm P e with
  |some sz=>if sz=gG then(match mx with
   |none=>match bounds len len aW af none with
    |some (l,aj,_)=>if l=0 then some (.slice b off aj (.aM gG)) else if Nat.blt l len then some (.slice b (off+l*sz) (aj-l) (.aM gG)) else some (.slice b off 0 .dead)
    |none=>none
   |some _=>match bounds len len aW af mx with
    |some (l,aj,m)=>some (.slice b (if m=l then off else off+l*sz) (aj-l) (.exact (m-l)))
    |none=>none) else none
  |none=>none
 |some (.slice e),.slice b off len .dead=>match dm P e,bounds 0 0 aW af mx with
  |some _,some _=>some (.slice b off 0 .dead)
  |_,_=>none
 |some (.array n e),.ptr b off=>match dm P e,bounds n n aW af mx with
  |some sz,some (l,aj,m)=>some (.slice b (if m=l then off else off+l*sz) (aj-l) (.exact (m-l)))
  |_,_=>none
 |some (.pointer arr),.ptr b off=>match P.underlying arr with
  |some (.array n e)=>match dm P e,bounds n n aW af mx with
   |some sz,some (l,aj,m)=>some (.slice b (if m=l then off else off+l*sz) (aj-l) (.exact (m-l)))
   |_,_=>none
  |_=>none
 |_,_=>none
def cO(P:Program)(h:aa)(t:TypeId)(x:J):Option J:=
 match P.underlying t,x with
 |some .string,.str s=>some (.int .i64 (Int.ofNat s.length))
 |some (.array n _),_=>some (.int .i64 (Int.ofNat n))
 |some (.slice _),.slice _ _ n _=>some (.int .i64 (Int.ofNat n))
 |some (.slice _),.az=>some (.int .i64 0)
 |some (.map _ _),.hz=>some (.int .i64 0)
 |some (.map _ _),.map r=>match h.get r with
  |some (.map es _)=>some (.int .i64 (Int.ofNat es.length))
  |_=>none
 |some (.pointer a),_=>match P.underlying a with
  |some (.array n _)=>some (.int .i64 (Int.ofNat n))
  |_=>none
 |_,_=>none
def Ao(P:Program)(t:TypeId)(x:J):Option J:=
 match P.underlying t,x with
 |some (.array n _),_=>some (.int .i64 (Int.ofNat n))
 |some (.slice _),.slice _ _ _ (.exact n)=>some (.int .i64 (Int.ofNat n))
 |some (.slice _),.az=>some (.int .i64 0)
 |_,_=>none
def cy:List UInt8->List J
 |[]=>[]
 |b::l=>.int .u8 (Int.ofNat b.toNat)::cy l
def hP(h:aa)(size:Nat):J->Option (Nat×List J)
 |.az=>some (0,[])
 |.str s=>match size with
  |1=>some (s.length,cy s)
  |_=>none
 |.slice b off len .dead=>if len=0 then some (0,[]) else none
 |.slice b off len _=>match loadCells h b off (len*size) with
  |some cs=>some (len,cs)
  |none=>none
 |_=>none
def lR(need bytes:Nat):Bool:=Nat.ble ((4*need+2048)*(bytes+1)) 281474976710656
def o6(P:Program):Option TypeId->Bool
 |none=>true
 |some t=>match P.underlying t with
  |some (.int _)=>false
  |some _=>true
  |none=>false
def kY(h:aa)(e bytes size need:Nat)(z:J)(cs:List J)(fz:Nat):Option (J×aa):=
 match lR need bytes&&Nat.beq z.cells.length size&&cs.all J.bF with
 |true=>some (.slice h.n 0 need (.aM size),h.push (.cells cs e .aM 0 fz))
 |false=>none
def gl(P:Program)(h:aa)(sT:TypeId)(xT:Option TypeId)(s x:J):Option (J×aa):=
 match P.underlying sT,o6 P xT with
 |some (.slice e),true=>
  match P.info? e,eG P e with
  |some i,some z=>
   match hP h i.size x with
   |none=>none
   |some (n,cs)=>
    match s with
    |.az=>match n with
     |0=>some (.az,h)
     |_=>kY h e i.bytes i.size n z cs 0
    |.slice b off len (.exact cap)=>
     match Nat.ble (len+n) cap with
     |true=>match n with
      |0=>some (.slice b off len (.exact cap),h)
      |_=>match storeCells h b (off+len*i.size) cs with
       |some an=>some (.slice b off (len+n) (.exact cap),an)
       |none=>none
     |false=>match loadCells h b off (len*i.size) with
      |some old=>kY h e i.bytes i.size (len+n) z (old++cs) 0
      |none=>none
    |.slice b off len (.aM gG)=>
     match Nat.beq gG i.size&&Nat.blt 0 gG with
     |true=>match n with
      |0=>some (s,h)
      |_=>match h.get b with
       |some (.cells old el .aM aW af)=>
        match Nat.ble (off+(len+n)*gG) old.length with
        |true=>match storeCells h b (off+len*gG) cs with
         |some an=>some (.slice b off (len+n) (.aM gG),an)
         |none=>none
        |false=>match Nat.ble af (off+len*gG)&&Nat.beq el e,loadCells h b off (len*gG) with
         |true,some o=>kY (h.set b none) e i.bytes i.size (len+n) z (o++cs) (af-off)
         |_,_=>none
       |_=>none
     |false=>none
    |_=>none
  |_,_=>none
 |_,_=>none
def Ap(P:Program)(h:aa)(Aq:TypeId)(d s:J):Option (J×aa):=
 match P.underlying Aq with
 |some (.slice e)=>match dm P e with
  |some sz=>match hP h sz s with
   |some (n,cs)=>match d with
    |.az=>some (.int .i64 0,h)
    |.slice b off len _=>
     let m:=Nat.min n len
     if m=0 then some (.int .i64 0,h) else
     match takeN (m*sz) cs with
     |some bS=>match storeCells h b off bS with
      |some an=>some (.int .i64 (Int.ofNat m),an)
      |none=>none
     |none=>none
    |_=>none
   |none=>none
  |none=>none
 |_=>none
def o7(P:Program)(h:aa)(t:TypeId)(x:J):Option (J×aa):=
 match P.underlying t,x with
 |some (.map _ _),.hz=>some (.aD [],h)
 |some (.slice _),.az=>some (.aD [],h)
 |some (.map _ _),.map r=>match h.get r with
  |some (.map _ c)=>some (.aD [],h.set r (some (.map [] c)))
  |_=>none
 |some (.slice e),.slice b off n _=>if n=0 then some (.aD [],h) else
  match eG P e with
  |some z=>match storeCells h b off (e8 n z.cells) with
   |some an=>some (.aD [],an)
   |none=>none
  |none=>none
 |_,_=>none
def jy:J->J->Option J
 |.int k x,.int ew y=>if k=ew then some (.int k (if dZ y x then y else x)) else none
 |_,_=>none
def xl:J->J->Option J
 |.int k x,.int ew y=>if k=ew then some (.int k (if dZ x y then y else x)) else none
 |_,_=>none
def iA(f:J->J->Option J):J->List J->Option J
 |x,[]=>some x
 |x,y::l=>match f x y with
  |some z=>iA f z l
  |none=>none
def nc:List J->Option (List UInt8)
 |[]=>some []
 |.int .u8 (.ofNat n)::l=>match Nat.blt n 256,nc l with
  |true,some r=>some (UInt8.ofNat n::r)
  |_,_=>none
 |_=>none
def qd(P:Program)(h:aa)(pT:TypeId)(p n:J):Option (J×aa):=
 match p,fF n with
 |.bc,some 0=>some (.str [],h)
 |.ptr b off,some n=>if n=0 then some (.str [],h) else
  match P.underlying pT,h.get b with
  |some (.pointer u),some (.cells cs el k aW af)=>
   if P.underlyingId el=P.underlyingId u&&dm P el=some 1&&Nat.ble n 281474976710656&&decide (k≠ .ro) then
    (match takeN n (iO off cs) with
    |some r=>match nc r with
     |some bs=>some (.str bs,h.set b (some (.cells cs el .fz aW af)))
     |none=>none
    |none=>none) else none
  |_,_=>none
 |_,_=>none
def n1(P:Program)(c7:TypeId)(k:J):Bool:=
 match P.underlying c7 with
 |some (.int _)=>match k with
  |.int _ _=>true
  |_=>false
 |some .string=>match k with
  |.str _=>true
  |_=>false
 |some .bool=>match k with
  |.bool _=>true
  |_=>false
 |_=>false
def Ar(P:Program)(cs:List J):List Field->Bool
 |[]=>true
 |f::ct=>match lg P f.type cs f.offset with
  |some a=>match n1 P f.type a with
   |true=>Ar P cs ct
   |false=>false
  |none=>false
def As(P:Program)(e:TypeId)(sz:Nat)(cs:List J):Nat->Nat->Bool
 |0,_=>true
 |n+1,i=>match lg P e cs (i*sz) with
  |some a=>match n1 P e a with
   |true=>As P e sz cs n (i+1)
   |false=>false
  |none=>false
def o8(P:Program)(c7:TypeId)(k:J):Bool:=
 match k with
 |.agg cs=>match P.underlying c7 with
  |some (.struct ct)=>Ar P cs ct.toList
  |some (.array n e)=>match dm P e with
   |some sz=>As P e sz cs n 0
   |none=>false
  |_=>false
 |k=>n1 P c7 k
def qe:J->J->Option Bool
 |.int j a,.int k b=>if j=k then some (de a b) else none
 |.str a,.str b=>some (cw a b)
 |.bool a,.bool b=>some (a==b)
 |_,_=>none
def xm:List J->List J->Bool
 |[],[]=>true
 |a::l,b::m=>match qe a b with
  |some true=>xm l m
  |_=>false
 |_,_=>false
def rl(k x:J):Bool:=match k,x with
 |.agg a,.agg b=>xm a b
 |.agg _,_=>false
 |_,_=>true
def xn(P:Program)(h:aa)(c7:TypeId)(k x:J):Option Bool:=match k with
 |.agg cs=>ic P h 8 c7 (.agg cs) x
 |k=>qe k x
def kZ(P:Program)(h:aa)(c7:TypeId)(k:J):List fW->Nat->Option (Option (Nat×J))
 |[],_=>some none
 |e::es,i=>match xn P h c7 k e.key with
  |some true=>some (some (i,e.val))
  |some false=>kZ P h c7 k es (i+1)
  |none=>none
def xo(i:Nat)(es:List fW):J:=match nth i es with
 |some e=>e.key
 |none=>.bad
def sX(v:J)(key:J):Nat->List fW->List fW
 |_,[]=>[]
 |0,e::es=>⟨key,v,e.born⟩::es
 |n+1,e::es=>e::sX v key n es
def xp(P:Program)(iB:TypeId)(ok:Bool):Option (Nat×J)->Option J
 |some (_,v)=>some (if ok then .aD [v,.bool true] else v)
 |none=>match eG P iB with
  |some z=>some (if ok then .aD [z,.bool false] else z)
  |none=>none
def At(P:Program)(h:aa)(t:TypeId)(m k:J)(ok:Bool):Option J:=
 match P.underlying t with
 |some (.map c7 iB)=>match o8 P c7 k with
  |true=>match m with
   |.hz=>xp P iB ok none
   |.map r=>match h.get r with
    |some (.map es _)=>match kZ P h c7 k es 0 with
     |some r=>xp P iB ok r
     |none=>none
    |_=>none
   |_=>none
  |false=>none
 |_=>none
def vk(P:Program)(h:aa)(t:TypeId)(m k v:J):Option aa:=
 match P.underlying t with
 |some (.map c7 _)=>match o8 P c7 k with
  |true=>match m with
   |.map r=>match h.get r with
    |some (.map es clock)=>match kZ P h c7 k es 0 with
     |some (some (i,_))=>match rl k (xo i es) with
      |true=>some (h.set r (some (.map (sX v k i es) clock)))
      |false=>none
     |some none=>some (h.set r (some (.map (es++[⟨k,v,clock⟩]) (clock+1))))
     |none=>none
    |_=>none
   |_=>none
  |false=>none
 |_=>none
def Au(P:Program)(h:aa)(t:TypeId)(m k:J):Option (J×aa):=
 match P.underlying t with
 |some (.map c7 iB)=>match o8 P c7 k with
  |true=>match m with
   |.map r=>match h.get r with
    |some (.map es clock)=>match kZ P h c7 k es 0 with
     |some (some (i,v))=>match nth i es with
      |some e=>match rl k e.key with
       |true=>some (.aD [v,.int .i64 (Int.ofNat e.born)],h.set r (some (.map (sX v k i es) clock)))
       |false=>none
      |none=>none
     |some none=>match eG P iB with
      |some z=>some (.aD [z,.int .i64 (Int.ofNat clock)],h.set r (some (.map (es++[⟨k,z,clock⟩]) (clock+1))))
      |none=>none
     |none=>none
    |_=>none
   |_=>none
  |false=>none
 |_=>none
def xq(born:Int):List fW->Nat->Option (Nat×fW)
 |[],_=>none
 |e::es,i=>match de (Int.ofNat e.born) born with
  |true=>some (i,e)
  |false=>xq born es (i+1)
def Av(h:aa)(m s v:J):Option aa:=
 match m,s with
 |.map r,.int _ born=>match h.get r with
  |some (.map es clock)=>match xq born es 0 with
   |some (i,e)=>some (h.set r (some (.map (sX v e.key i es) clock)))
   |none=>none
  |_=>none
 |_,_=>none
def DD:Nat->List fW->List fW
 |_,[]=>[]
 |0,_::es=>es
 |n+1,e::es=>e::DD n es
def Aw(P:Program)(h:aa)(t:TypeId)(m k:J):Option (J×aa):=
 match P.underlying t with
 |some (.map c7 _)=>match o8 P c7 k with
  |true=>match m with
   |.hz=>some (.aD [],h)
   |.map r=>match h.get r with
    |some (.map es clock)=>match kZ P h c7 k es 0 with
     |some (some (i,_))=>some (.aD [],h.set r (some (.map (DD i es) clock)))
     |some none=>some (.aD [],h.set r (some (.map es clock)))
     |none=>none
    |_=>none
   |_=>none
  |false=>none
 |_=>none
def DE(s:List UInt8):Nat×Nat:=Utf8.decode ⟨s.toArray⟩ 0
def Ax(h:aa)(it:J)(isStr:Bool):Option (J×aa):=
 match it with
 |.ptr r 0=>match h.get r,isStr with
  |some (.o4 s pos),true=>
   (match s with
   |[]=>some (.aD [.bool false],h)
   |s=>let(c,w):=DE s
    some (.aD [.bool true,.int .i64 (Int.ofNat pos),.int .i32 (Int.ofNat c)],h.set r (some (.o4 (iO w s) (pos+w)))))
  |some (.mapIter none _ _ _),false=>some (.aD [.bool false],h)
  |_,_=>none
 |_=>none
def xr(b:Nat):List fW->Option fW
 |[]=>none
 |e::l=>match Nat.beq e.born b with
  |true=>some e
  |false=>xr b l
def Ay:List Nat->Option Nat
 |[]=>none
 |[b]=>some b
 |_::b::l=>Ay (b::l)
def Az(h:aa)(it:J):Option J:=
 match it with
 |.ptr r 0=>match h.get r with
  |some (.mapIter (some m) _ seen last)=>match h.get m,Ay seen with
   |some (.map es clock),some b=>match Nat.beq clock last with
    |true=>match xr b es with
     |some e=>some (.aD [e.key,e.val])
     |none=>none
    |false=>none
   |_,_=>none
  |_=>none
 |_=>none
end ay
namespace ay
open Go
inductive bG where
 |none|act (v:J)|done (v:J)
inductive bK where
 |nrm|exit (id:Nat)|ret|goto (l:Nat)|bk (v:J)
inductive jz where
 |ok (e:bK) (r:aU) (d:List bC) (q:bG) (h:aa)
 |fail (jg:String)
inductive aO where
 |fn (f:Nat)|bR (l:Nat)
inductive Acc where
 |env (j:Nat)|lh (p:ib)|val (v:J)
def d_(m:Nat)(env:List J)(r:aU):Acc->J
 |.env j=>(nth (m-1-j) env).getD .bad
 |.lh p=>r.get p
 |.val v=>v
def iC(t:Nat):List (Nat×Acc)->Option Acc
 |[]=>none
 |(u,a)::l=>match Nat.beq t u with
  |true=>some a
  |false=>iC t l
def cP(P:Program)(need:Nat)(loc:List (Nat×Acc)):Operand->Acc
 |.tmp t=>match iC t loc with
  |some a=>a
  |none=>match Nat.testBit need t with
   |true=>.lh (hc t)
   |false=>.val .bad
 |.const v=>.val (n0 v)
 |.global g=>match Nat.blt g P.globals.size with
  |true=>.val (.ptr g 0)
  |false=>.val .bad
 |.func f=>.val (.fn f [] [])
def sY(f:J)(args:List J)(h:aa):fj:=
 match f with
 |.fn g first caps=>.call g (first++args++caps) h
 |.bR l=>.bR l args h
 |_=>.fail "callVal"
def fX(h:aa)(jg:String):Option J->fj
 |some v=>.val v h
 |none=>.fail jg
def lj(jg:String):Option (J×aa)->fj
 |some (v,h)=>.val v h
 |none=>.fail jg
def qf(jg:String):Option aa->fj
 |some h=>.val (.aD []) h
 |none=>.fail jg
def kindName:J->String
 |.bad=> "bad" |.bool _=> "bool" |.int _ n=> "int" ++toString n|.str s=> "str" ++toString s.length|.bc=> "nilP" |.ptr b o=> "ptr" ++toString b++ "+" ++toString o|.az=> "nilS" |.slice b o n c=> "slice" ++toString b++ "+" ++toString o++ "," ++toString n++(match c with|.exact k=> "x" ++toString k|.aM _=> "o" |.dead=> "d")
 |.hz=> "nilM" |.map _=> "map" |.fi=> "nilF" |.fn f _ _=> "fn" ++toString f|.bR _=> "yld" |.eO=> "nilI" |.iface t _=> "iface" ++toString t|.agg l=> "agg" ++toString l.length|.aD l=> "tup" ++toString l.length
def AA(P:Program)(t:TypeId)(name:String):Option Nat:=
 match P.info? t with
 |some i=>match i.methods.find? (·.name==name) with
  |some m=>match m.path.isEmpty,m.func,P.underlying t with
   |true,some (f,true),some (.pointer _)=>some f
   |true,some (f,false),some (.pointer _)=>none
   |true,some (f,false),some _=>some f
   |_,_,_=>none
  |none=>none
 |none=>none
def iD(P:Program)(b:Builtin)(ats:Array TypeId)(vs:List J)(h:aa):fj:=
 match b with
 |.recover=>.sW
 |.min=>match vs with
  |x::l=>fX h "min" (iA jy x l)
  |[]=>.fail "min"
 |.max=>match vs with
  |x::l=>fX h "max" (iA xl x l)
  |[]=>.fail "max"
 |b=>match ats[0]?,vs with
  |some t,[x]=>match b with
   |.len=>fX h ("len " ++kindName x) (cO P h t x)
   |.cap=>fX h "cap" (Ao P t x)
   |.clear=>lj "clear" (o7 P h t x)
   |.unsafeSliceData=>match x with
    |.az=>.val .bc h
    |.slice b off n (.exact c)=>if c=0 then .fail "SliceData" else .val (.ptr b off) h
    |.slice b off n (.aM _)=>if n=0 then .fail "SliceData" else .val (.ptr b off) h
    |_=>.fail "SliceData"
   |_=>.fail "builtin"
  |some t,[x,y]=>match b with
   |.append=>lj ("append " ++kindName x++ " " ++kindName y) (gl P h t ats[1]? x y)
   |.copy=>lj "copy" (Ap P h t x y)
   |.delete=>lj "delete" (Aw P h t x y)
   |.unsafeString=>lj "usString" (qd P h t x y)
   |_=>.fail "builtin"
  |_,_=>.fail "builtin"
def ea(P:Program)(src dst:TypeId)(x:J)(h:aa):fj:=
 match P.underlying src,P.underlying dst,x with
 |some (.int _),some (.int k),.int _ n=>.val (.int k (k.wrap n)) h
 |some (.int _),some .string,.int _ n=>.val (.str (Utf8.encode n).data.toList) h
 |some .string,some .string,.str s=>.val (.str s) h
 |some .string,some (.slice e),.str s=>match P.underlying e with
  |some (.int .u8)=>.val (.slice h.n 0 s.length (.aM 1)) (h.push (.cells (cy s) e .aM 0 0))
  |_=>.fail "convert to runes"
 |some (.slice e),some .string,v=>match P.underlying e,v with
  |some (.int .u8),.az=>.val (.str []) h
  |some (.int .u8),.slice b off n .dead=>if n=0 then .val (.str []) h else .fail "convert dead"
  |some (.int .u8),.slice b off n _=>match loadCells h b off n with
   |some cs=>match nc cs with
    |some bs=>.val (.str bs) h
    |none=>.fail "convert bytes"
   |none=>.fail "convert bytes"
  |_,_=>.fail "convert slice to string"
 |some (.pointer u),some .unsafePointer,.ptr b off=>match h.get b,dm P u with
  |some (.cells cs _ _ _ _),some (_+1)=>if Nat.blt off cs.length then .val (.ptr b off) h else .fail "convert pointer"
  |_,_=>.fail "convert pointer"
 |some .unsafePointer,some (.pointer u),.ptr b off=>match h.get b,dm P u with
  |some (.cells cs el .own _ _),some (_+1)=>if liesAt P P.depth el (cs.length/P.cellsOf el) off u 1 then .val (.ptr b off) h else .fail "convert from pointer"
  |_,_=>.fail "convert from pointer"
 |_,_,v=>.fail ("convert " ++kindName v)
def cD(P:Program)(o:Oper)(g:Operand->J)(h:aa):fj:=
 match o.op with
 |.move x|.assign x=>.val (g x) h
 |.pick c a b=>match g c with
  |.bool true=>.val (g a) h
  |.bool false=>.val (g b) h
  |_=>.fail "pick"
 |.alloc e=>match eG P e with
  |some z=>match newRow h e z.cells with
   |some (b,an)=>.val (.ptr b 0) an
   |none=>.fail "alloc"
  |none=>.fail "alloc"
 |.box e x=>match newRow h e (g x).cells with
  |some (b,an)=>.val (.ptr b 0) an
  |none=>.fail "box"
 |.build t parts=>match eG P t with
  |some z=>match P.underlying t with
   |some (.struct ct)=>match ct.toList.all (λf=>(dm P f.type).isSome),jR (λi=>(ct[i]?).map λf=>(f.offset,P.cellsOf f.type)) z.cells (parts.toList.map λp=>(p.1,g p.2)) with
    |true,some cs=>.val (.agg cs) h
    |_,_=>.fail "build"
   |some (.array _ e)=>match dm P e with
    |some sz=>match jR (λi=>some (i*sz,sz)) z.cells (parts.toList.map λp=>(p.1,g p.2)) with
     |some cs=>.val (.agg cs) h
     |none=>.fail "build array"
    |none=>.fail "build"
   |_=>.fail "build"
  |none=>.fail "build"
 |.buildSlice t len parts=>match P.underlying t with
  |some (.slice e)=>match dm P e,eG P e with
   |some sz,some z=>match Nat.ble (len*sz) 16777216&&Nat.beq z.cells.length sz,jR (λi=>some (i*sz,sz)) (if len*sz=0 then[] else e8 len z.cells) (parts.toList.map λp=>(p.1,g p.2)) with
    |true,some cs=>match newRow h e cs with
     |some (b,an)=>.val (.slice b 0 len (.exact len)) an
     |none=>.fail "buildSlice"
    |_,_=>.fail "buildSlice"
   |_,_=>.fail "buildSlice"
  |_=>.fail "buildSlice"
 |.insert t m k v=>qf "insert" (vk P h t (g m) (g k) (g v))
 |.load t a=>match g a with
  |.ptr b off=>match lf P t,dm P t with
   |some true,some n=>match loadCells h b off n with
    |some cs=>.val (.agg cs) h
    |none=>.fail ("load agg " ++toString b++ "+" ++toString off)
   |some false,_=>fX h ("load " ++toString b++ "+" ++toString off) (aA h b off)
   |_,_=>.fail "load"
  |v=>.fail ("load of " ++kindName v)
 |.store t a v=>match g a with
  |.ptr b off=>match g v,dm P t with
   |.bad,_=>.fail "store bad"
   |v,some n=>match Nat.beq v.cells.length n with
    |true=>qf "store" (storeCells h b off v.cells)
    |false=>.fail "store size"
   |_,none=>.fail "store"
  |_=>.fail "store"
 |.ready _|.waits _=>.fail "ready"
 |.nilCheck x=>match g x with
  |.ptr b o=>.val (.ptr b o) h
  |.slice b o n c=>.val (.slice b o n c) h
  |.fn f a b=>.val (.fn f a b) h
  |.iface t v=>.val (.iface t v) h
  |_=>.fail "nilCheck"
 |.binOp op t x y _=>fX h ("binOp " ++kindName (g x)++ " " ++kindName (g y)) (er P h op t x y (g x) (g y))
 |.unOp op _ x=>match op,g x with
  |.not,.bool b=>.val (.bool (!b)) h
  |.neg,.int k n=>.val (.int k (k.wrap (0-n))) h
  |.xor,.int k n=>fX h "unOp" (arith .xor k (if k.signed then-1 else k.max) n)
  |_,_=>.fail "unOp"
 |.convert src dst x=>ea P src dst (g x) h
 |.sliceToArrayPointer .. =>.fail "sliceToArrayPointer"
 |.makeInterface t x=>match P.underlying t with
  |some (.interface _)=>.fail "makeInterface"
  |some _=>.val (.iface t (g x)) h
  |none=>.fail "makeInterface"
 |.makeFunc fn first caps=>match fn with
  |.func f=>.val (.fn f (first.toList.map g) (caps.toList.map g)) h
  |_=>.fail "makeFunc"
 |.makeMap t r=>match r with
  |none=>.val (.map h.n) (h.push (.map [] 0))
  |some x=>match P.underlying t,g x with
   |some (.map _ _),.int _ _=>.val (.map h.n) (h.push (.map [] 0))
   |_,_=>.fail "makeMap"
 |.makeChan .. =>.fail "makeChan"
 |.makeSlice t l c=>match P.underlying t,fF (g l),fF (g c) with
  |some (.slice e),some l,some c=>match P.info? e,eG P e with
   |some i,some z=>if l<=c&&Nat.ble (c*(i.bytes+1)) 1099511627776&&Nat.beq z.cells.length i.size then(match newRow h e (if c*i.size=0 then[] else e8 c z.cells) with
    |some (b,an)=>.val (.slice b 0 l (.exact c)) an
    |none=>.fail "makeSlice") else .fail "makeSlice bounds"
   |_,_=>.fail "makeSlice"
  |_,_,_=>.fail "makeSlice"
 |.slice t x aW af mx=>fX h ("slice " ++kindName (g x)++((aW.map λo=>kindName (g o)).getD "-")++((af.map λo=>kindName (g o)).getD "-")) (dR P h t (g x) (aW.map g) (af.map g) (mx.map g))
 |.fieldAddr s x f=>match P.underlying s,g x with
  |some (.struct ct),.ptr b off=>match ct[f]? with
   |some fd=>match dm P fd.type with
    |some 0=>.fail "fieldAddr 0"
    |some _=>.val (.ptr b (off+fd.offset)) h
    |none=>.fail "fieldAddr"
   |none=>.fail "fieldAddr"
  |_,v=>.fail ("fieldAddr " ++kindName v)
 |.field t x f=>match P.underlying t,g x with
  |some (.struct ct),.agg cs=>match ct[f]? with
   |some fd=>fX h "field" (lg P fd.type cs fd.offset)
   |none=>.fail "field"
  |_,_=>.fail "field"
 |.indexAddr t x i=>match P.underlying t,g x,fF (g i) with
  |some (.array n e),.ptr b off,some i=>match dm P e with
   |some sz=>if i<n then .val (.ptr b (off+i*sz)) h else .fail "indexAddr range"
   |none=>.fail "indexAddr"
  |some (.slice e),.slice b off n c,some i=>match dm P e with
   |some sz=>if i<n then .val (.ptr b (off+i*sz)) h else .fail "indexAddr range"
   |none=>.fail "indexAddr"
  |_,v,w=>.fail ("indexAddr " ++kindName v++kindName (g i))
 |.index t x i=>match P.underlying t,g x,fF (g i) with
  |some (.array n e),.agg cs,some i=>match dm P e with
   |some sz=>if i<n then fX h "index" (lg P e cs (i*sz)) else .fail "index range"
   |none=>.fail "index"
  |some .string,.str s,some i=>match nth i s with
   |some b=>.val (.int .u8 (Int.ofNat b.toNat)) h
   |none=>.fail "index str range"
  |_,_,_=>.fail "index"
 |.lookup t x i ok=>fX h "lookup" (At P h t (g x) (g i) ok)
 |.mapUpdate t m k v=>qf "mapUpdate" (vk P h t (g m) (g k) (g v))
 |.mapEntry t m k=>lj "mapEntry" (Au P h t (g m) (g k))
 |.entryStore t m s v=>qf "entryStore" (Av h (g m) (g s) (g v))
 |.range t x=>match P.underlying t,g x with
  |some .string,.str s=>.val (.ptr h.n 0) (h.push (.o4 s 0))
  |some (.map _ _),.hz=>.val (.ptr h.n 0) (h.push (.mapIter none 0 [] 0))
  |some (.map _ _),.map m=>match h.get m with
   |some (.map _ c)=>.val (.ptr h.n 0) (h.push (.mapIter (some m) c [] c))
   |_=>.fail "range"
  |_,_=>.fail "range"
 |.next it isStr=>lj "next" (Ax h (g it) isStr)
 |.entry it=>fX h "entry" (Az h (g it))
 |.typeAssert x xT as ok=>match P.underlying as,g x with
  |some (.interface _),_=>.fail "typeAssert to an interface"
  |some _,.eO=>if ok then(match eG P as with|some z=>.val (.aD [z,.bool false]) h|none=>.fail "typeAssert") else .fail "typeAssert nil"
  |some _,.iface t v=>if t=as then .val (if ok then .aD [v,.bool true] else v) h else
   if ok then(match eG P as with|some z=>.val (.aD [z,.bool false]) h|none=>.fail "typeAssert") else .fail "typeAssert fails"
  |_,_=>.fail "typeAssert"
 |.extract t i=>match g t with
  |.aD vs=>fX h "extract" (nth i vs)
  |_=>.fail "extract"
 |.call c=>match c.callee with
  |.value f=>sY (g f) (c.args.toList.map g) h
  |.invoke r name=>match g r with
   |.iface t v=>match AA P t name with
    |some f=>.call f (v::c.args.toList.map g) h
    |none=>.fail ("invoke " ++name)
   |_=>.fail ("invoke " ++name)
  |.builtin b=>iD P b c.argTypes (c.args.toList.map g) h
 |.go _=>.fail "go"
 |.defer c=>match c.callee with
  |.value f=>match g f with
   |.fn k first caps=>.ju (.call k (first++c.args.toList.map g++caps))
   |_=>.fail "defer"
  |_=>.fail "defer"
 |.panic x=>match g x with
  |.iface t v=>.bk (.iface t v) h
  |_=>.fail "panic"
 |.send .. |.recv .. |.select .. =>.fail "comm"
structure Step where
 guard:Option (Acc×Bool)
 o:Oper
 loc:List (Nat×Acc)
 m:Nat
structure IB where
 steps:List Step
 loc:List (Nat×Acc)
def j8(P:Program)(need:Nat)(ops:Array Oper)(loc:List (Nat×Acc))(o:Oper):Option (Acc×Bool):=
 match o.guard with
 |none=>none
 |some (j,b)=>match(ops[j]?).bind (·.dst) with
  |some t=>some (cP P need loc (.tmp t),b)
  |none=>some (.val .bad,b)
def aliasOf(o:Oper):Option (Nat×Operand):=
 match o.guard,o.dst,o.op with
 |none,some t,.move x=>some (t,x)
 |none,some t,.assign x=>some (t,x)
 |_,_,_=>none
def lS(o:Oper)(m:Nat)(loc:List (Nat×Acc)):List (Nat×Acc):=
 match o.dst with
 |some t=>(t,.env m)::loc
 |none=>loc
def vl(P:Program)(need:Nat)(ops:Array Oper):List Oper->List (Nat×Acc)->List Step->Nat->IB
 |[],loc,st,_=>⟨st.reverse,loc⟩
 |o::rest,loc,st,m=>
  match aliasOf o with
  |some (t,x)=>vl P need ops rest ((t,cP P need loc x)::loc) st m
  |none=>vl P need ops rest (lS o m loc) (⟨j8 P need ops loc o,o,loc,m⟩::st) (m+1)
def o9(P:Program)(need:Nat)(ops:Array Oper):IB:=vl P need ops ops.toList [] [] 0
inductive mm where
 |ok (env:List J) (d:List bC) (q:bG) (h:aa)
 |bk (v:J) (d:List bC) (q:bG) (h:aa)
 |fail (jg:String)
inductive xt where
 |ok (v:J) (d:List bC) (q:bG) (h:aa)
 |bk (v:J) (d:List bC) (q:bG) (h:aa)
 |fail (jg:String)
def eH:Option (J×Bool)->Option Bool
 |none=>some true
 |some (.bool c,b)=>some (c==b)
 |some (.aD [],_)=>some false
 |_=>none
def xu(d:List bC)(q:bG):ax->xt
 |.ret v h=>.ok v d q h
 |.bk v h=>.bk v d q h
 |.fail w=>.fail w
def eb(P:Program)(inR:Bool)(call:aO->List J->aa->ax)(gd:Option (J×Bool))(o:Oper)(g:Operand->J)(d:List bC)(q:bG)(h:aa):xt:=
 match eH gd with
 |none=>.fail ("guard " ++o.pos)
 |some false=>.ok (.aD []) d q h
 |some true=>
  match cD P o g h with
  |.val v an=>.ok v d q an
  |.bk v an=>.bk v d q an
  |.call f args an=>xu d q (call (.fn f) args an)
  |.bR l args an=>xu d q (call (.bR l) args an)
  |.ju x=>if inR then .fail "defer in a round" else .ok (.aD []) (x::d) q h
  |.sW=>if inR then .fail "recover in a round" else match q with
   |.none=>.ok .eO d .none h
   |.done v=>.ok .eO d (.done v) h
   |.act v=>.ok v d (.done v) h
  |.fail w=>.fail (w++ " at " ++o.pos)
def j9(P:Program)(need:Nat)(inR:Bool)(call:aO->List J->aa->ax)(r:aU):List Step->List J->List bC->bG->aa->mm
 |[],env,d,q,h=>.ok env d q h
 |s::rest,env,d,q,h=>
  match eb P inR call (match s.guard with|none=>none|some (a,b)=>some (d_ s.m env r a,b)) s.o (λx=>d_ s.m env r (cP P need s.loc x)) d q h with
  |.ok v bx bq an=>j9 P need inR call r rest (v::env) bx bq an
  |.bk v bx bq an=>.bk v bx bq an
  |.fail w=>.fail w
def cj.beq:cj->cj->Bool
 |.exact a,.exact b=>Nat.beq a b
 |.aM a,.aM b=>Nat.beq a b
 |.dead,.dead=>true
 |_,_=>false
mutual
def J.beq:J->J->Bool
 |.bool a,.bool b=>a==b
 |.int j a,.int k b=>decide (j=k)&&de a b
 |.str a,.str b=>cw a b
 |.bc,.bc=>true
 |.ptr a i,.ptr b j=>Nat.beq a b&&Nat.beq i j
 |.az,.az=>true
 |.slice a i n c,.slice b j m d=>Nat.beq a b&&Nat.beq i j&&Nat.beq n m&&c.beq d
 |.hz,.hz=>true
 |.map a,.map b=>Nat.beq a b
 |.fi,.fi=>true
 |.fn f a b,.fn g c d=>Nat.beq f g&&J.j_ a c&&J.j_ b d
 |.bR a,.bR b=>Nat.beq a b
 |.eO,.eO=>true
 |.iface t v,.iface u w=>Nat.beq t u&&J.beq v w
 |.agg a,.agg b=>J.j_ a b
 |.aD a,.aD b=>J.j_ a b
 |_,_=>false
def J.j_:List J->List J->Bool
 |[],[]=>true
 |a::as,b::bs=>J.beq a b&&J.j_ as bs
 |_,_=>false
end
inductive Qv where
 |pure|alloc|ey
def kindOf(P:Program):Op->Qv
 |.move _|.assign _|.pick .. |.build .. |.load .. |.nilCheck _|.binOp .. |.unOp .. |.makeInterface .. |.makeFunc .. |.slice .. |.fieldAddr .. |.field .. |.indexAddr .. |.index .. |.lookup .. |.typeAssert .. |.extract .. =>.pure
 |.convert _ d _=>match P.underlying d with
  |some (.slice _)=>.ey
  |_=>.pure
 |.call c=>match c.callee with
  |.builtin .len|.builtin .cap|.builtin .min|.builtin .max|.builtin .unsafeSliceData=>.pure
  |_=>.ey
 |.alloc _|.box .. |.buildSlice .. |.makeSlice .. =>.alloc
 |.makeMap _ none=>.alloc
 |_=>.ey
def kb(P:Program)(o:Op)(g:Operand->J)(b:Nat):Option (J×b3):=
 match o with
 |.alloc e=>match eG P e with
  |some z=>match z.cells.all J.bF with
   |true=>some (.ptr b 0,.cells z.cells e .own 0 0)
   |false=>none
  |none=>none
 |.box e x=>match(g x).cells.all J.bF with
  |true=>some (.ptr b 0,.cells (g x).cells e .own 0 0)
  |false=>none
 |.buildSlice t len parts=>match P.underlying t with
  |some (.slice e)=>match dm P e,eG P e with
   |some sz,some z=>match Nat.ble (len*sz) 16777216&&Nat.beq z.cells.length sz,jR (λi=>some (i*sz,sz)) (if len*sz=0 then[] else e8 len z.cells) (parts.toList.map λp=>(p.1,g p.2)) with
    |true,some cs=>match cs.all J.bF with
     |true=>some (.slice b 0 len (.exact len),.cells cs e .own 0 0)
     |false=>none
    |_,_=>none
   |_,_=>none
  |_=>none
 |.makeSlice t l c=>match P.underlying t,fF (g l),fF (g c) with
  |some (.slice e),some l,some c=>match P.info? e,eG P e with
   |some i,some z=>match decide (l<=c)&&Nat.ble (c*(i.bytes+1)) 1099511627776&&Nat.beq z.cells.length i.size,(if c*i.size=0 then[] else e8 c z.cells) with
    |true,cs=>match cs.all J.bF with
     |true=>some (.slice b 0 l (.exact c),.cells cs e .own 0 0)
     |false=>none
    |_,_=>none
   |_,_=>none
  |_,_,_=>none
 |.makeMap _ none=>some (.map b,.map [] 0)
 |_=>none
structure DStep where
 i:Nat
 o:Oper
 e9:Nat
 loc:List (Nat×Acc)
def xv(gH:List Nat)(n:Nat)(o:Oper):Nat:=
 o.after.foldl (λs e=>match Region.binds .any e with
  |true=>s|||1<<<e.on|||(nth (n-1-e.on) gH).getD 0
  |false=>s) 0
def fk:List Oper->Nat->List (Nat×Acc)->List Nat->List DStep
 |[],_,_,_=>[]
 |o::l,n,loc,gH=>
  let m:=xv gH n o
  ⟨n,o,m,loc⟩::fk l (n+1) (lS o n loc) (m::gH)
def iP:List Oper->Nat->List (Nat×Acc)->List (Nat×Acc)
 |[],_,loc=>loc
 |o::l,n,loc=>iP l (n+1) (lS o n loc)
def g0(P:Program)(need:Nat)(ops:Array Oper)(r:aU)(n:Nat)(env:List J)(s:DStep):Option (J×Bool):=
 match j8 P need ops s.loc s.o with
 |none=>none
 |some (a,b)=>some (d_ n env r a,b)
inductive DF where
 |ok (env:List J) (d:List bC) (q:bG) (h:aa) (a9:List (Nat×Nat×aa))
 |bk (v:J) (env:List J) (d:List bC) (q:bG) (h:aa) (a9:List (Nat×Nat×aa))
 |fail (jg:String)
def gw(P:Program)(need:Nat)(inR:Bool)(call:aO->List J->aa->ax)(ops:Array Oper)(r:aU)(cF:Nat):List DStep->List J->List bC->bG->aa->List (Nat×Nat×aa)->DF
 |[],env,d,q,h,a9=>.ok env d q h a9
 |s::rest,env,d,q,h,a9=>
  let gd:=g0 P need ops r s.i env s
  let g:=λx=>d_ s.i env r (cP P need s.loc x)
  match kindOf P s.o.op with
  |.alloc=>match eH gd with
   |none=>.fail ("guard " ++s.o.pos)
   |some false=>gw P need inR call ops r cF rest (.aD []::env) d q h a9
   |some true=>match kb P s.o.op g (cF+s.i) with
    |some (v,o)=>gw P need inR call ops r cF rest (v::env) d q (h.set (cF+s.i) (some o)) a9
    |none=>.fail ("alloc " ++s.o.pos)
  |.pure=>match eb P inR call gd s.o g d q h with
   |.ok v _ _ _=>gw P need inR call ops r cF rest (v::env) d q h a9
   |.bk _ _ _ _=>.fail ("pure " ++s.o.pos)
   |.fail w=>.fail w
  |.ey=>
   match(match a9 with|[]=>true|(e,_,_)::_=>Nat.testBit s.e9 e) with
   |false=>.fail ("order " ++s.o.pos)
   |true=>match eb P inR call gd s.o g d q h with
    |.ok v bx bq an=>gw P need inR call ops r cF rest (v::env) bx bq an ((s.i,s.e9,h)::a9)
    |.bk v bx bq an=>match rest.all (λa4=>Nat.testBit a4.e9 s.i) with
     |true=>.bk v env bx bq an ((s.i,s.e9,h)::a9)
     |false=>.fail ("panic " ++s.o.pos)
    |.fail w=>.fail w
def lT(P:Program)(need:Nat)(ops:Array Oper)(r:aU)(n:Nat)(env:List J)(s:DStep)(v:J)(h:aa):Bool:=
 match eH (g0 P need ops r n env s) with
 |none=>false
 |some false=>true
 |some true=>match cD P s.o (λx=>d_ n env r (cP P need s.loc x)) h with
  |.val v' _=>J.beq v' v
  |_=>false
def k0(P:Program)(need:Nat)(ops:Array Oper)(r:aU)(n:Nat)(env:List J)(s:DStep)(v:J):Option Nat->aa->List (Nat×Nat×aa)->Bool
 |en,h,a9=>
  (match(match en with|none=>false|some e=>Nat.testBit s.e9 e)||(match a9 with|[]=>false|(_,m,_)::_=>Nat.testBit m s.i) with
   |true=>true
   |false=>lT P need ops r n env s v h)&&
  (match a9 with
   |[]=>true
   |(e,_,an)::rest=>k0 P need ops r n env s v (some e) an rest)
def lk(P:Program)(need:Nat)(ops:Array Oper)(r:aU)(n:Nat)(env:List J)(last:Option Nat)(h:aa)(a9:List (Nat×Nat×aa)):List DStep->Bool
 |[]=>true
 |s::rest=>(match Nat.blt s.i n,kindOf P s.o.op with
   |true,.pure=>k0 P need ops r n env s ((nth (n-1-s.i) env).getD .bad) last h a9
   |_,_=>true)&&lk P need ops r n env last h a9 rest
def sZ(P:Program)(need:Nat)(inR:Bool)(call:aO->List J->aa->ax)(ops:Array Oper)(r:aU)(d:List bC)(q:bG)(h:aa):mm:=
 let steps:=fk ops.toList 0 [] []
 match gw P need inR call ops r h.n steps [] d q ⟨h.t,h.n+ops.size⟩ [] with
 |.ok env bx bq an a9=>match lk P need ops r env.length env none an a9 steps with
  |true=>.ok env bx bq an
  |false=>.fail "orders"
 |.bk v env bx bq an a9=>match a9 with
  |(e,_,h0)::rest=>match lk P need ops r env.length env (some e) h0 rest steps with
   |true=>.bk v bx bq an
   |false=>.fail "orders"
  |[]=>.fail "orders"
 |.fail w=>.fail w
def qg(need:Nat)(m:Nat)(env:List J)(gm:aU):List (Nat×Acc)->aU->aU
 |[],r=>r
 |(t,a)::l,r=>
  let r':=qg need m env gm l r
  match Nat.testBit need t with
  |true=>r'.set (hc t) (d_ m env gm a)
  |false=>r'
def vm:List (Nat×Acc)->aU->aU
 |[],r=>r
 |(t,_)::l,r=>(vm l r).set (hc t) .bad
def qh(need:Nat)(r:aU)(loc:List (Nat×Acc)):mm->jz
 |.ok env d q h=>.ok .nrm (qg need env.length env r loc r) d q h
 |.bk v d q h=>.ok (.bk v) (vm loc r) d q h
 |.fail w=>.fail w
def qi(x:jz)(f:aU->List bC->bG->aa->jz):jz:=
 match x with
 |.ok .nrm r d q h=>f r d q h
 |x=>x
def o_(f:aU->List bC->bG->aa->jz):Nat->aU->List bC->bG->aa->jz
 |0,_,_,_,_=>.fail "loop fuel"
 |n+1,r,d,q,h=>qi (f r d q h) (o_ f n)
def n2(rd:Option Nat)(n:Nat):Nat:=match rd with
 |none=>n+1
 |some _=>n
def xw(need:Nat)(rd:Option Nat)(r:aU)(ps:List Nat)(as cb:Code)(d:List bC)(h:aa):Option (List bC×aa):=
 match rd with
 |none=>some (.collected h.n::d,(h.push (.defrd (some []))).push (.loop .ready none need r ps as cb h.n))
 |some rm=>match h.get rm with
  |some (.loop _ _ _ _ _ _ _ et)=>some (d,h.push (.loop .ready none need r ps as cb et))
  |_=>none
def jh(l:Nat)(r:aU)(d:List bC)(q:bG):ax->jz
 |.ret _ h=>match h.get l with
  |some (.loop st gb ef rg ps as cb et)=>match st with
   |.busy=>.fail "rangeFunc: busy"
   |_=>match gb with
    |none=>.ok .nrm r d q (h.set l (some (.loop .exhausted gb ef rg ps as cb et)))
    |some .ret=>.ok .ret r d q (h.set l (some (.loop .exhausted gb ef rg ps as cb et)))
    |some (.exit id)=>.ok (.exit id) r d q (h.set l (some (.loop .exhausted gb ef rg ps as cb et)))
    |_=>.fail "rangeFunc: goto"
  |_=>.fail "rangeFunc: loop gone"
 |.bk v h=>.ok (.bk v) r d q h
 |.fail w=>.fail w
def dD(P:Program)(need:Nat)(rd:Option Nat)(call:aO->List J->aa->ax):Code->aU->List bC->bG->aa->jz
 |.skip,r,d,q,h=>.ok .nrm r d q h
 |.region id ops draw,r,d,q,h=>
  match draw with
  |false=>
   let pl:=o9 P need ops
   qh need r pl.loc (j9 P need rd.isSome call r pl.steps [] d q h)
  |true=>qh need r (iP ops.toList 0 []) (sZ P need rd.isSome call ops r d q h)
 |.seq a b,r,d,q,h=>qi (dD P need rd call a r d q h) (dD P need rd call b)
 |.cond c a b,r,d,q,h=>match d_ 0 [] r (cP P need [] c) with
  |.bool true=>dD P need rd call a r d q h
  |.bool false=>dD P need rd call b r d q h
  |_=>.fail "cond"
 |.block id b,r,d,q,h=>match dD P need rd call b r d q h with
  |.ok (.exit i) r' bx bq an=>if i=id then .ok .nrm r' bx bq an else .ok (.exit i) r' bx bq an
  |x=>x
 |.loop b,r,d,q,h=>o_ (dD P need rd call b) 100000 r d q h
 |.exit id,r,d,q,h=>.ok (.exit id) r d q h
 |.ret,r,d,q,h=>.ok .ret r d q h
 |.label _,r,d,q,h=>.ok .nrm r d q h
 |.goto l,r,d,q,h=>.fail "goto"
 |.scope b,r,d,q,h=>dD P need rd call b r d q h
 |.rangeFunc f params assign body,r,d,q,h=>
  match xw need rd r params.toList assign body d h with
  |none=>.fail "rangeFunc"
  |some (bx,ab)=>
   match sY (d_ 0 [] r (cP P need [] f)) [.bR (n2 rd h.n)] ab with
   |.call g args ae=>jh (n2 rd h.n) r bx q (call (.fn g) args ae)
   |.bR bT args ae=>jh (n2 rd h.n) r bx q (call (.bR bT) args ae)
   |_=>.fail "rangeFunc: no function"
 |.refuse w,_,_,_,_=>.fail ("refuse " ++w)
def bit(t:Nat):Nat:=1<<<t
def IC:List Oper->Nat->Nat->Nat
 |[],_,acc=>acc
 |o::l,written,acc=>
  let acc:=o.op.operands.foldl (λa x=>match x with
   |.tmp t=>if Nat.testBit written t then a else a|||bit t
   |_=>a) acc
  IC l (match o.dst with|some t=>written|||bit t|none=>written) acc
def ID:Operand->Nat
 |.tmp t=>bit t
 |_=>0
def rn:Code->Nat->Nat
 |.region _ ops _,acc=>IC ops.toList 0 acc
 |.seq a b,acc=>rn b (rn a acc)
 |.cond c a b,acc=>rn b (rn a (acc|||ID c))
 |.block _ b,acc|.loop b,acc|.scope b,acc=>rn b acc
 |.rangeFunc f ps a b,acc=>rn b (rn a (acc|||ID f|||ps.foldl (λa t=>a|||bit t) 0))
 |_,acc=>acc
def dh(fn:Func):Nat:=
 let rs:=fn.results.foldl (λa r=>match r with|.tmp t=>a|||bit t|.cell t _=>a|||bit t) 0
 match fn.body with
 |some c=>rn c rs
 |none=>rs
def nd:Nat->List J->aU->aU
 |_,[],r=>r
 |i,v::l,r=>nd (i+1) l (r.set (hc i) v)
def rp(P:Program)(need:Nat)(r:aU)(h:aa)(x:ResultVar):Option J:=
 match x with
 |.tmp t=>match Nat.testBit need t with
  |true=>some (r.get (hc t))
  |false=>none
 |.cell t ty=>match Nat.testBit need t with
  |true=>match r.get (hc t),lf P ty,dm P ty with
   |.ptr b off,some true,some n=>(match loadCells h b off n with|some cs=>some (.agg cs)|none=>none)
   |.ptr b off,some false,_=>aA h b off
   |_,_,_=>none
  |false=>none
def mn(f:ResultVar->Option J):List ResultVar->Option (List J)
 |[]=>some []
 |x::l=>match f x,mn f l with
  |some v,some vs=>some (v::vs)
  |_,_=>none
def pa(P:Program)(need:Nat)(fn:Func)(r:aU)(h:aa):Option J:=
 match mn (rp P need r h) fn.results.toList with
 |some [v]=>some v
 |some vs=>some (.aD vs)
 |none=>none
def n3(c:Nat):List UInt8->Nat->Int
 |[],_=>-1
 |b::l,i=>match Nat.beq b.toNat c with
  |true=>Int.ofNat i
  |false=>n3 c l (i+1)
def vn(P:Program)(fn:Func)(name:String)(args:List J)(h:aa):Option (J×aa):=
 match args with
 |[.int .i64 (.ofNat n)]=>if name= "internal/bytealg.MakeNoZero" then
    (match fn.resultTypes[0]? with
    |some t=>match P.underlying t with
     |some (.slice e)=>match Nat.ble n 1099511627776 with
      |true=>some (.slice h.n 0 n (.aM 1),h.push (.cells (List.replicate n .bad) e .aM 0 0))
      |false=>none
     |_=>none
    |none=>none) else none
 |[x]=>if name= "internal/abi.NoEscape" then some (x,h) else
  if name= "maps.clone" then(match x with
   |.iface t (.map r)=>match h.get r with
    |some (.map es c)=>some (.iface t (.map h.n),h.push (.map es c))
    |_=>none
   |_=>none) else none
 |[.str s,.int .u8 (.ofNat c)]=>if name= "internal/bytealg.IndexByteString" then
    (match Nat.blt c 256 with
    |true=>some (.int .i64 (n3 c s 0),h)
    |false=>none) else none
 |_=>none
def qj:Option J->bG
 |some v=>.act v
 |none=>.none
def vo(q:bG)(eI:Option J):Option J:=match q with
 |.done _=>none
 |_=>eI
def kC(P:Program)(call:aO->List J->aa->ax)(fn:Func)(args:List J)(q:bG)(h:aa):jz:=
 match fn.body with
 |some c=>match Nat.ble args.length fn.ntmps with
  |true=>dD P (dh fn) none call c (nd 0 args .leaf) [] q h
  |false=>.fail "too many arguments"
 |none=>.fail "no body"
def AB(P:Program)(fn:Func)(eI:Option J):jz->Option (Option J×aa)
 |.ok e r d q h=>match(match e with|.nrm=>true|.ret=>true|_=>false),d,pa P (dh fn) fn r h with
  |true,[],some _=>some (vo q eI,h)
  |_,_,_=>none
 |.fail _=>none
def jA(P:Program)(call:aO->List J->aa->ax)(need:Nat)(fn:Func)(r:aU):Nat->Option J->List bC->aa->ax
 |0,_,_,_=>.fail "defers"
 |k+1,eI,aV,h=>match aV with
  |[]=>match eI with
   |none=>match pa P need fn r h with
    |some v=>.ret v h
    |none=>.fail "results"
   |some v=>.bk v h
  |.collected b::aV=>match h.get b with
   |some (.defrd (some cs))=>jA P call need fn r k eI (cs++aV) (h.set b (some (.defrd none)))
   |_=>.fail "collected"
  |.call g args::aV=>
   match P.funcs[g]? with
   |some eW=>match AB P eW eI (kC P call eW args (qj eI) h) with
    |some (Qw,an)=>jA P call need fn r k Qw aV an
    |none=>.fail "deferred call"
   |none=>.fail "deferred"
def kd(P:Program)(call:aO->List J->aa->ax)(fn:Func):jz->ax
 |.ok .nrm r d _ h=>jA P call (dh fn) fn r 100 none d h
 |.ok .ret r d _ h=>jA P call (dh fn) fn r 100 none d h
 |.ok (.bk v) r d _ h=>jA P call (dh fn) fn r 100 (some v) d h
 |.ok _ _ _ _ _=>.fail "exit out of a function"
 |.fail w=>.fail (w++ " < " ++fn.name)
def qk(P:Program)(call:aO->List J->aa->ax)(f:Nat)(args:List J)(h:aa):ax:=
 match P.funcs[f]? with
 |none=>.fail "no function"
 |some fn=>
  match fn.body with
  |none=>match vn P fn fn.name args h with
   |some (v,an)=>.ret v an
   |none=>.fail ("extern " ++fn.name)
  |some _=>kd P call fn (kC P call fn args .none h)
def s3:List Nat->List J->aU->Option aU
 |[],[],r=>some r
 |t::ts,v::vs,r=>s3 ts vs (r.set (hc t) v)
 |_,_,_=>none
def vp(l:Nat):jz->ax
 |.ok e _ [] _ h=>match h.get l with
  |some (.loop .busy _ ef rg ps as cb et)=>match e with
   |.nrm=>.ret (.bool true) (h.set l (some (.loop .ready none ef rg ps as cb et)))
   |.ret=>.ret (.bool false) (h.set l (some (.loop .done (some .ret) ef rg ps as cb et)))
   |.exit id=>.ret (.bool false) (h.set l (some (.loop .done (some (.exit id)) ef rg ps as cb et)))
   |.bk v=>.bk v h
   |.goto _=>.fail "goto in a round"
  |_=>.fail "round"
 |.ok .. =>.fail "round defers"
 |.fail w=>.fail (w++ " < round")
def AD(P:Program)(call:aO->List J->aa->ax)(l need:Nat)(cb:Code):jz->ax
 |.ok .nrm r [] _ h=>match h.get l with
  |some (.loop .ready gb ef rg ps AE AF et)=>vp l (dD P need (some l) call cb r [] .none (h.set l (some (.loop .busy gb ef rg ps AE AF et))))
  |_=>.fail "round"
 |.ok .. =>.fail "round assign"
 |.fail w=>.fail w
def n4(P:Program)(call:aO->List J->aa->ax)(l:Nat)(args:List J)(h:aa):ax:=
 match h.get l with
 |some (.loop .ready _ need rg ps as cb _)=>
  match s3 ps args rg with
  |none=>.fail "yield: arguments"
  |some gm=>AD P call l need cb (dD P need (some l) call as gm [] .none h)
 |_=>.fail "yield"
def e_(P:Program)(intr:Nat->List J->aa->Option (J×aa)):Nat->aO->List J->aa->ax
 |0,_,_,_=>.fail "depth"
 |n+1,.fn f,args,h=>match intr f args h with
  |some (v,an)=>.ret v an
  |none=>qk P (e_ P intr n) f args h
 |n+1,.bR l,args,h=>n4 P (e_ P intr n) l args h
def iE(n:Nat):aa:=⟨.leaf,n⟩
def lU(ops:Array Oper)(o:Oper):List Nat:=
 o.dst.toList++(o.op.operands.toList.filterMap λ|.tmp t=>some t|_=>none)++(match o.guard with|some (j,_)=>((ops[j]?).bind (·.dst)).toList|none=>[])
def n5(o:Oper)(i:Nat):Bool:=o.after.toList.all λe=>!Region.binds .any e||Nat.blt e.on i
def AG(ops:Array Oper)(s:DStep):List DStep->Bool
 |[]=>true
 |a4::l=>(match(match s.o.dst with|some t=>(lU ops a4.o).contains t|none=>false)||(match a4.o.dst with|some t=>(lU ops s.o).contains t|none=>false) with
   |true=>Nat.testBit a4.e9 s.i
   |false=>true)&&AG ops s l
def ql(ops:Array Oper):List DStep->Bool
 |[]=>true
 |s::l=>n5 s.o s.i&&AG ops s l&&ql ops l
def iQ(ck:Nat):Code->Bool
 |.region _ ops draw=>ops.toList.all (λo=>match o.dst with|some t=>Nat.blt t ck|none=>true)&&(!draw||ql ops (fk ops.toList 0 [] []))
 |.seq a b=>iQ ck a&&iQ ck b
 |.cond _ a b=>iQ ck a&&iQ ck b
 |.block _ b|.loop b|.scope b=>iQ ck b
 |.rangeFunc _ ps a b=>ps.toList.all (λt=>Nat.blt t ck)&&iQ ck a&&iQ ck b
 |_=>true
end ay
namespace ay
open Go
def ib.num:ib->Nat
 |.here=>0
 |.l p=>2*p.num+1
 |.r p=>2*p.num+2
theorem IE:∀(f n:Nat),n<=f->(xj f n).num=n
 |0,n,h=>by
  obtain rfl:n=0:=by omega
  rfl
 |f+1,0,_=>rfl
 |f+1,m+1,h=>by
  have e:Nat.mod m 2=m %2:=rfl
  have aC:Nat.div m 2=m/2:=rfl
  have bp:=IE f (m/2) (by omega)
  simp only[xj,e,aC]
  rcases Nat.mod_two_eq_zero_or_one m with h0|ab
  · simp only[h0,ib.num,bp];omega
  · simp only[ab,ib.num,bp];omega
theorem AH(n:Nat):(hc n).num=n:=IE n n (Nat.le_refl n)
theorem Qx{m n:Nat}(h:hc m=hc n):m=n:=by rw[<-AH m,<-AH n,h]
theorem aU.rq(l:aU)(v:J)(r:aU):aU.DA l v r=.node l v r:=by cases l<;>rfl
theorem aU.rr(l:aU)(v:J)(r:aU):aU.DB l v r=.node l v r:=by cases r<;>rfl
theorem aU.nf(p:ib):aU.get p .leaf=.bad:=by cases p<;>rfl
theorem aU.xx:∀(p:ib) (v:J) (t:aU),(aU.set p v t).get p=v
 |.here,v,.leaf=>rfl
 |.here,v,.node .. =>rfl
 |.l p,v,.leaf=>by simp only[aU.set,aU.rq,aU.get];exact xx p v _
 |.l p,v,.node l _ _=>by simp only[aU.set,aU.rq,aU.get];exact xx p v _
 |.r p,v,.leaf=>by simp only[aU.set,aU.rr,aU.get];exact xx p v _
 |.r p,v,.node .. =>by simp only[aU.set,aU.rr,aU.get];exact xx p v _
theorem aU.xy:∀(p q:ib) (v:J) (t:aU),p≠q->(aU.set q v t).get p=t.get p
 |.here,.here,_,_,h=>absurd rfl h
 |.here,.l q,v,.leaf,_=>by simp[aU.set,aU.rq,aU.get]
 |.here,.l q,v,.node ..,_=>by simp[aU.set,aU.rq,aU.get]
 |.here,.r q,v,.leaf,_=>by simp[aU.set,aU.rr,aU.get]
 |.here,.r q,v,.node ..,_=>by simp[aU.set,aU.rr,aU.get]
 |.l p,.here,v,.leaf,_=>by simp[aU.set,aU.get,aU.nf]
 |.l p,.here,v,.node ..,_=>by simp[aU.set,aU.get]
 |.r p,.here,v,.leaf,_=>by simp[aU.set,aU.get,aU.nf]
 |.r p,.here,v,.node ..,_=>by simp[aU.set,aU.get]
 |.l p,.l q,v,.leaf,h=>by
  simp only[aU.set,aU.rq,aU.get]
  rw[xy p q v _ (λe=>h (by rw[e])),aU.nf]
 |.l p,.l q,v,.node ..,h=>by
  simp only[aU.set,aU.rq,aU.get]
  exact xy p q v _ (λe=>h (by rw[e]))
 |.r p,.r q,v,.leaf,h=>by
  simp only[aU.set,aU.rr,aU.get]
  rw[xy p q v _ (λe=>h (by rw[e])),aU.nf]
 |.r p,.r q,v,.node ..,h=>by
  simp only[aU.set,aU.rr,aU.get]
  exact xy p q v _ (λe=>h (by rw[e]))
 |.l p,.r q,v,.leaf,_=>by simp[aU.set,aU.rr,aU.get,aU.nf]
 |.l p,.r q,v,.node ..,_=>by simp[aU.set,aU.rr,aU.get]
 |.r p,.l q,v,.leaf,_=>by simp[aU.set,aU.rq,aU.get,aU.nf]
 |.r p,.l q,v,.node ..,_=>by simp[aU.set,aU.rq,aU.get]
theorem aU.bH(t u:Nat)(v:J)(r:aU):(aU.set (hc u) v r).get (hc t)=if t=u then v else r.get (hc t):=by
 by_cases h:t=u
 · subst h;simp[aU.xx]
 · rw[if_neg h];exact aU.xy _ _ _ _ (λe=>h (Qx e))
theorem e0.nf(n:Nat):e0.get .leaf n=none:=rfl
theorem e0.bH:∀(f:Nat) (t:e0) (n m:Nat) (x:Option b3),n<f->(e0.kX f t n x).get m=if m=n then x else t.get m
 |0,_,n,_,_,h=>by omega
 |f+1,.leaf,0,m,x,_=>by
  cases m with
  |zero=>simp[e0.kX,e0.get]
  |succ m=>
   simp only[e0.kX,e0.get]
   have e:Nat.mod m 2=m %2:=rfl
   rcases Nat.mod_two_eq_zero_or_one m with h|h<;>simp[e,h]
 |f+1,.node l v r,0,m,x,_=>by
  cases m with
  |zero=>simp[e0.kX,e0.get]
  |succ m=>simp[e0.kX,e0.get]
 |f+1,.leaf,n+1,m,x,aJ=>by
  have e (k:Nat):Nat.mod k 2=k %2:=rfl
  have aC (k:Nat):Nat.div k 2=k/2:=rfl
  have bp:=λj=>bH f .leaf (n/2) j x (by omega)
  rcases Nat.mod_two_eq_zero_or_one n with h|h
  · simp only[e0.kX,e,h,aC]
    cases m with
    |zero=>simp[e0.get]
    |succ m=>
     simp only[e0.get,e,aC]
     rcases Nat.mod_two_eq_zero_or_one m with g|g
     · simp only[g,bp,e0.nf]
       have:(m/2=n/2)<->(m+1=n+1):=by omega
       simp only[this]
     · simp only[g,e0.nf]
       rw[if_neg (by omega)]
  · simp only[e0.kX,e,h,aC]
    cases m with
    |zero=>simp[e0.get]
    |succ m=>
     simp only[e0.get,e,aC]
     rcases Nat.mod_two_eq_zero_or_one m with g|g
     · simp only[g,e0.nf]
       rw[if_neg (by omega)]
     · simp only[g,bp,e0.nf]
       have:(m/2=n/2)<->(m+1=n+1):=by omega
       simp only[this]
 |f+1,.node l v r,n+1,m,x,aJ=>by
  have e (k:Nat):Nat.mod k 2=k %2:=rfl
  have aC (k:Nat):Nat.div k 2=k/2:=rfl
  have Qy:=λj=>bH f l (n/2) j x (by omega)
  have AI:=λj=>bH f r (n/2) j x (by omega)
  rcases Nat.mod_two_eq_zero_or_one n with h|h
  · simp only[e0.kX,e,h,aC]
    cases m with
    |zero=>simp[e0.get]
    |succ m=>
     simp only[e0.get,e,aC]
     rcases Nat.mod_two_eq_zero_or_one m with g|g
     · simp only[g,Qy]
       have:(m/2=n/2)<->(m+1=n+1):=by omega
       simp only[this]
     · simp only[g]
       rw[if_neg (by omega)]
  · simp only[e0.kX,e,h,aC]
    cases m with
    |zero=>simp[e0.get]
    |succ m=>
     simp only[e0.get,e,aC]
     rcases Nat.mod_two_eq_zero_or_one m with g|g
     · simp only[g]
       rw[if_neg (by omega)]
     · simp only[g,AI]
       have:(m/2=n/2)<->(m+1=n+1):=by omega
       simp only[this]
theorem aa.bH(h:aa)(b c:Nat)(o:Option b3):(h.set b o).get c=if c=b then o else h.get c:=
 e0.bH _ _ _ _ _ (Nat.lt_succ_self b)
theorem aa.eD(h:aa)(c:Nat)(o:b3):(h.push o).get c=if c=h.n then some o else h.get c:=
 e0.bH _ _ _ _ _ (Nat.lt_succ_self _)
@[simp] theorem aa.fr (h:aa) (b:Nat) (o:Option b3):(h.set b o).n=h.n:=rfl
@[simp] theorem aa.eJ (h:aa) (o:b3):(h.push o).n=h.n+1:=rfl
structure eX where
 bg:Nat
 base:Nat
 size:Nat
abbrev bl:=Nat->Option eX
def fa(μ aP:bl):Prop:=∀b i,μ b=some i->aP b=some i
theorem fa.refl(μ:bl):fa μ μ:=λ_ _ h=>h
theorem fa.trans{μ aP IF:bl}(h:fa μ aP)(an:fa aP IF):fa μ IF:=λb i e=>an b i (h b i e)
def DG(i:eX)(off len:Nat):cj->Value->Prop
 |.exact c,v=>v=.slice (some ⟨i.bg,i.base+off,none⟩) len c
 |.aM gG,v=>∃c,v=.slice (some ⟨i.bg,i.base+off,none⟩) len c/\len<=c/\off+c*gG=i.size
 |.dead,v=>len=0/\∃a c,v=.slice (some a) 0 c
mutual
def bd(μ:bl):J->Value->Prop
 |.bad,_=>True
 |.bool b,v=>v=.bool b
 |.int k n,v=>v=.int k n
 |.str s,v=>∃t,v=.string t/\t.data.toList=s
 |.bc,v=>v=.pointer none
 |.ptr b off,v=>∃i,μ b=some i/\v=.pointer (some ⟨i.bg,i.base+off,none⟩)
 |.az,v=>v=.slice none 0 0
 |.slice b off len cap,v=>∃i,μ b=some i/\DG i off len cap v
 |.hz,v=>v=.map none
 |.map r,v=>∃i,μ r=some i/\v=.map (some i.bg)
 |.fi,v=>v=.nilFunc
 |.fn f first caps,v=>∃ct cs,v=.func (.func f) ⟨ct⟩ ⟨cs⟩/\b9 μ first ct/\b9 μ caps cs
 |.bR l,v=>∃i,μ l=some i/\v=.func (.yield i.bg) ⟨[]⟩ ⟨[]⟩
 |.eO,v=>v=.nilIface
 |.iface t x,v=>∃y,v=.iface t y/\bd μ x y
 |.agg cs,v=>∃l,v=.agg ⟨l⟩/\b9 μ cs l
 |.aD vs,v=>∃l,v=.tuple ⟨l⟩/\b9 μ vs l
def b9(μ:bl):List J->List Value->Prop
 |[],l=>l=[]
 |a::as,l=>∃v vs,l=v::vs/\bd μ a v/\b9 μ as vs
end
mutual
theorem bd.mono{μ aP:bl}(hle:fa μ aP):∀(a:J) (v:Value),bd μ a v->bd aP a v
 |.bad,_,_=>trivial
 |.bool _,_,h=>h
 |.int _ _,_,h=>h
 |.str _,_,h=>h
 |.bc,_,h=>h
 |.ptr b off,_,⟨i,h,e⟩=>⟨i,hle _ _ h,e⟩
 |.az,_,h=>h
 |.slice b off len cap,_,⟨i,h,e⟩=>⟨i,hle _ _ h,e⟩
 |.hz,_,h=>h
 |.map r,_,⟨i,h,e⟩=>⟨i,hle _ _ h,e⟩
 |.fi,_,h=>h
 |.fn f first caps,_,⟨ct,cs,e,ab,ae⟩=>⟨ct,cs,e,b9.mono hle _ _ ab,b9.mono hle _ _ ae⟩
 |.bR l,_,⟨i,h,e⟩=>⟨i,hle _ _ h,e⟩
 |.eO,_,h=>h
 |.iface t x,_,⟨y,e,h⟩=>⟨y,e,bd.mono hle _ _ h⟩
 |.agg cs,_,⟨l,e,h⟩=>⟨l,e,b9.mono hle _ _ h⟩
 |.aD cs,_,⟨l,e,h⟩=>⟨l,e,b9.mono hle _ _ h⟩
theorem b9.mono{μ aP:bl}(hle:fa μ aP):∀(as:List J) (vs:List Value),b9 μ as vs->b9 aP as vs
 |[],_,h=>h
 |a::as,_,⟨v,vs,e,ab,ae⟩=>⟨v,vs,e,bd.mono hle _ _ ab,b9.mono hle _ _ ae⟩
end
mutual
theorem ke(μ:bl):∀v:Value,bd μ (n0 v) v
 |.bool b=>rfl
 |.int k n=>rfl
 |.string s=>⟨s,rfl,rfl⟩
 |.pointer none=>rfl
 |.pointer (some _)=>trivial
 |.slice none 0 0=>rfl
 |.slice none 0 (_+1)=>trivial
 |.slice none (_+1) _=>trivial
 |.slice (some _) _ _=>trivial
 |.map none=>rfl
 |.map (some _)=>trivial
 |.nilFunc=>rfl
 |.nilIface=>rfl
 |.agg ⟨cs⟩=>⟨cs,rfl,DH μ cs⟩
 |.tuple ⟨cs⟩=>⟨cs,rfl,DH μ cs⟩
 |.float _ _=>trivial
 |.complex _ _ _=>trivial
 |.chan _=>trivial
 |.func _ _ _=>trivial
 |.iface _ _=>trivial
theorem DH(μ:bl):∀vs:List Value,b9 μ (An vs) vs
 |[]=>rfl
 |v::vs=>⟨v,vs,rfl,ke μ v,DH μ vs⟩
end
theorem b9.length{μ:bl}:∀{as:List J} {vs:List Value},b9 μ as vs->as.length=vs.length
 |[],_,h=>by cases h;rfl
 |a::as,_,⟨v,vs,e,_,ae⟩=>by subst e;simp[b9.length ae]
theorem b9.append{μ:bl}:∀{as bs:List J} {vs us:List Value},b9 μ as vs->b9 μ bs us->b9 μ (as++bs) (vs++us)
 |[],_,_,_,h,an=>by cases h;exact an
 |a::as,_,_,_,⟨v,vs,e,ab,ae⟩,an=>by subst e;exact⟨v,vs++_,rfl,ab,b9.append ae an⟩
theorem b9.get{μ:bl}:∀{as:List J} {vs:List Value} (_:b9 μ as vs) {j:Nat} {a:J},as[j]? =some a->∃v,vs[j]? =some v/\bd μ a v
 |[],_,_,j,a,h=>by simp at h
 |x::as,_,⟨v,vs,e,ab,ae⟩,0,a,h=>by
  subst e;simp at h;subst h;exact⟨v,rfl,ab⟩
 |x::as,_,⟨v,vs,e,ab,ae⟩,j+1,a,h=>by
  subst e;simp at h;simpa using b9.get ae h
theorem b9.xz{μ:bl}:∀{as:List J} {vs:List Value},as.length=vs.length->(∀(j:Nat) (a:J),as[j]? =some a->∃v,vs[j]? =some v/\bd μ a v)->b9 μ as vs
 |[],[],_,_=>rfl
 |[],_::_,h,_=>by simp at h
 |_::_,[],h,_=>by simp at h
 |a::as,v::vs,h,aj=>by
  refine⟨v,vs,rfl,?_,b9.xz (by simpa using h) λj x ad=>?_⟩
  · obtain⟨u,hu,r⟩:=aj 0 a rfl
    simp at hu;subst hu;exact r
  · simpa using aj (j+1) x (by simpa using ad)
theorem b9.map{μ:bl}{s4:Type}(g:s4->J)(cn:s4->Value)(h:∀x,bd μ (g x) (cn x)):∀l:List s4,b9 μ (l.map g) (l.map cn)
 |[]=>rfl
 |x::l=>⟨_,_,rfl,h x,b9.map g cn h l⟩
theorem bd.cells{μ:bl}{a:J}{v:Value}(h:bd μ a v)(ag:a≠ .bad):b9 μ a.cells v.cells.toList:=by
 cases a with
 |bad=>exact absurd rfl ag
 |agg cs=>obtain⟨l,rfl,aw⟩:=h;exact aw
 |aD vs=>obtain⟨l,rfl,aw⟩:=h;exact⟨_,_,rfl,⟨l,rfl,aw⟩,rfl⟩
 |bool b=>cases h;exact⟨_,_,rfl,rfl,rfl⟩
 |int k n=>cases h;exact⟨_,_,rfl,rfl,rfl⟩
 |str s=>obtain⟨t,rfl,e⟩:=h;exact⟨_,_,rfl,⟨t,rfl,e⟩,rfl⟩
 |bc=>cases h;exact⟨_,_,rfl,rfl,rfl⟩
 |ptr b off=>obtain⟨i,e,rfl⟩:=h;exact⟨_,_,rfl,⟨i,e,rfl⟩,rfl⟩
 |az=>cases h;exact⟨_,_,rfl,rfl,rfl⟩
 |slice b off len cap=>
  obtain⟨i,e,ah⟩:=h
  have:v.cells=#[v]:=by
   cases cap with
   |exact c=>cases ah;rfl
   |aM gG=>obtain⟨c,rfl,_⟩:=ah;rfl
   |dead=>obtain⟨_,a,c,rfl⟩:=ah;rfl
  rw[this];exact⟨_,_,rfl,⟨i,e,ah⟩,rfl⟩
 |hz=>cases h;exact⟨_,_,rfl,rfl,rfl⟩
 |map r=>obtain⟨i,e,rfl⟩:=h;exact⟨_,_,rfl,⟨i,e,rfl⟩,rfl⟩
 |fi=>cases h;exact⟨_,_,rfl,rfl,rfl⟩
 |fn f a b=>obtain⟨ct,cs,rfl,ab,ae⟩:=h;exact⟨_,_,rfl,⟨ct,cs,rfl,ab,ae⟩,rfl⟩
 |bR l=>obtain⟨i,e,rfl⟩:=h;exact⟨_,_,rfl,⟨i,e,rfl⟩,rfl⟩
 |eO=>cases h;exact⟨_,_,rfl,rfl,rfl⟩
 |iface t x=>obtain⟨y,rfl,a6⟩:=h;exact⟨_,_,rfl,⟨y,rfl,a6⟩,rfl⟩
theorem bd.xA{μ:bl}{a:J}{v:Value}(h:bd μ a v)(ah:a.bF=true):v.oneCell'=true:=by
 cases a with
 |bad=>simp[J.bF] at ah
 |agg cs=>simp[J.bF] at ah
 |aD vs=>simp[J.bF] at ah
 |bool b=>cases h;rfl
 |int k n=>cases h;rfl
 |str s=>obtain⟨t,rfl,e⟩:=h;rfl
 |bc=>cases h;rfl
 |ptr b off=>obtain⟨i,e,rfl⟩:=h;rfl
 |az=>cases h;rfl
 |slice b off len cap=>
  obtain⟨i,e,ah⟩:=h
  cases cap with
  |exact c=>cases ah;rfl
  |aM gG=>obtain⟨c,rfl,_⟩:=ah;rfl
  |dead=>obtain⟨_,a,c,rfl⟩:=ah;rfl
 |hz=>cases h;rfl
 |map r=>obtain⟨i,e,rfl⟩:=h;rfl
 |fi=>cases h;rfl
 |fn f a b=>obtain⟨ct,cs,rfl,ab,ae⟩:=h;rfl
 |bR l=>obtain⟨i,e,rfl⟩:=h;rfl
 |eO=>cases h;rfl
 |iface t x=>obtain⟨y,rfl,a6⟩:=h;rfl
def ji(need:Nat)(μ:bl)(r:aU)(b_:Array Value):Prop:=∀t,Nat.testBit need t=true->bd μ (r.get (hc t)) (b_.getD t undef)
theorem ji.mono{need:Nat}{μ aP:bl}{r:aU}{b_:Array Value}(hle:fa μ aP)(h:ji need μ r b_):ji need aP r b_:=λt a2=>(h t a2).mono hle
inductive s5(μ:bl):bC->Deferred->Prop where
 |call (f:Nat) (args:List J) (cap vs:List Value) (h:b9 μ args (vs++cap)):s5 μ (.call f args) {target:=.fn (.func f) ⟨cap⟩,args:=⟨vs⟩}
 |collected (r:Nat) (i:eX) (h:μ r=some i):s5 μ (.collected r) {target:=.collected i.bg,args:=#[]}
theorem s5.mono{μ aP:bl}(hle:fa μ aP){a:bC}{d:Deferred}(h:s5 μ a d):s5 aP a d:=by
 cases h with
 |call f args cap vs h=>exact .call f args cap vs (h.mono hle)
 |collected r i h=>exact .collected r i (hle _ _ h)
def gS(μ:bl):List bC->List Deferred->Prop
 |[],l=>l=[]
 |a::as,l=>∃d aV,l=d::aV/\s5 μ a d/\gS μ as aV
theorem gS.mono{μ aP:bl}(hle:fa μ aP):∀{as:List bC} {aV:List Deferred},gS μ as aV->gS aP as aV
 |[],_,h=>h
 |_::_,_,⟨d,aV,e,ab,ae⟩=>⟨d,aV,e,ab.mono hle,gS.mono hle ae⟩
theorem gS.append{μ:bl}:∀{as bs:List bC} {aV es:List Deferred},gS μ as aV->gS μ bs es->gS μ (as++bs) (aV++es)
 |[],_,_,_,h,an=>by cases h;exact an
 |_::_,_,_,_,⟨d,aV,e,ab,ae⟩,an=>by subst e;exact⟨d,aV++_,rfl,ab,gS.append ae an⟩
def vq(μ:bl)(e:fW)(m:MapEntry):Prop:=bd μ e.key m.key/\bd μ e.val m.val/\e.born=m.born
def gf(μ:bl):List fW->List MapEntry->Prop
 |[],l=>l=[]
 |e::es,l=>∃m ms,l=m::ms/\vq μ e m/\gf μ es ms
theorem vq.mono{μ aP:bl}(hle:fa μ aP){e:fW}{m:MapEntry}(h:vq μ e m):vq aP e m:=⟨h.1.mono hle,h.2.1.mono hle,h.2.2⟩
theorem gf.mono{μ aP:bl}(hle:fa μ aP):∀{es:List fW} {ms:List MapEntry},gf μ es ms->gf aP es ms
 |[],_,h=>h
 |_::_,_,⟨m,ms,e,ab,ae⟩=>⟨m,ms,e,ab.mono hle,gf.mono hle ae⟩
def DI(μ:bl)(cs:List J)(c:Array Value)(base:Nat):Prop:=∀(j:Nat) (v:J),cs[j]? =some v->∃u,c[base+j]? =some u/\bd μ v u
def DJ(k:eZ)(cs:List J)(i:eX)(aW af fO fP:Nat):Prop:=match k with
 |.own=>i.base=0/\i.size=cs.length/\fO=aW/\fP=af
 |.aM=>cs.length<=i.size/\∀j,j<i.size->fO<=i.base+j->i.base+j<fP->aW<=j/\j<af
 |.ro=>True
 |.fz=>True
def ng(μ:bl)(o:b3)(i:eX)(w:World):Prop:=match o with
 |.cells cs el k aW af=>∃c fO fP,w.heap[i.bg]? =some (.cells c el (fO,fP))/\DI μ cs c i.base/\i.base+i.size=c.size/\DJ k cs i aW af fO fP
 |.map es clock=>∃ents,w.heap[i.bg]? =some (.map ⟨ents⟩ clock)/\gf μ es ents
 |.o4 s pos=>i.base=0/\∃full,w.heap[i.bg]? =some (.stringIter full pos)/\full.data.toList.drop pos=s
 |.mapIter none since seen last=>i.base=0/\w.heap[i.bg]? =some (.mapIter none since ⟨seen⟩ last)
 |.mapIter (some m) since seen last=>i.base=0/\∃j,μ m=some j/\w.heap[i.bg]? =some (.mapIter (some j.bg) since ⟨seen⟩ last)
 |.loop st gb need mj params as cb et=>∃b_ hQ fn,μ et=some hQ/\w.heap[i.bg]? =some (.loop {state:=st,pending:=gb,fn:=fn,tmps:=b_,params:=⟨params⟩,assign:=as,body:=cb,defers:=hQ.bg})/\ji need μ mj b_/\iQ b_.size as=true/\iQ b_.size cb=true/\∀t∈params,t<b_.size
 |.defrd none=>w.heap[i.bg]? =some (.deferred none)
 |.defrd (some aV)=>∃l,w.heap[i.bg]? =some (.deferred (some l))/\gS μ aV l
 |.raw o=>i.base=0/\w.heap[i.bg]? =some o
theorem ng.mono{μ aP:bl}(hle:fa μ aP){o:b3}{i:eX}{w w':World}(hw:w'.heap[i.bg]? =w.heap[i.bg]?)(h:ng μ o i w):ng aP o i w':=by
 cases o with
 |cells cs el k aW af=>
  obtain⟨c,fO,fP,ab,ae,av⟩:=h
  exact⟨c,fO,fP,hw.trans ab,λj v e=>let⟨u,hu,r⟩:=ae j v e;⟨u,hu,r.mono hle⟩,av⟩
 |map es clock=>obtain⟨ents,ab,ae⟩:=h;exact⟨ents,hw.trans ab,ae.mono hle⟩
 |o4 s pos=>obtain⟨h0,full,ab,ae⟩:=h;exact⟨h0,full,hw.trans ab,ae⟩
 |mapIter m since seen last=>
  cases m with
  |none=>exact⟨h.1,hw.trans h.2⟩
  |some m=>obtain⟨h0,j,ab,ae⟩:=h;exact⟨h0,j,hle _ _ ab,hw.trans ae⟩
 |loop st gb fn mj params as cb et=>obtain⟨b_,hQ,DK,ab,ae,av,aK⟩:=h;exact⟨b_,hQ,DK,hle _ _ ab,hw.trans ae,av.mono hle,aK⟩
 |defrd calls=>
  cases calls with
  |none=>exact hw.trans h
  |some aV=>obtain⟨l,ab,ae⟩:=h;exact⟨l,hw.trans ab,ae.mono hle⟩
 |raw o=>exact⟨h.1,hw.trans h.2⟩
def b3.nh:b3->Bool
 |.cells _ _ .ro _ _=>true
 |.raw _=>true
 |_=>false
structure bm(μ:bl)(H:aa)(w:World):Prop where
 rel:∀b o i,H.get b=some o->μ b=some i->ng μ o i w
 inj:∀b c i j,H.get b≠none->(∃o,H.get c=some o/\o.nh=false)->μ b=some i->μ c=some j->i.bg=j.bg->b=c
 lt:∀b i,μ b=some i->b<H.n/\i.bg<w.heap.size
 bound:∀b,H.n<=b->H.get b=none
structure b4(μ:bl)(H:aa)(w:World)(aP:bl)(aZ:aa)(w':World):Prop where
 le:fa μ aP
 size:w.heap.size<=w'.heap.size
 n:H.n<=aZ.n
 live:∀b,b<H.n->aZ.get b≠none->H.get b≠none
 idle:∀b,b<H.n->μ b=none->aZ.get b=H.get b
 old:∀r,r<w.heap.size->(∀b i,H.get b≠none->μ b=some i->i.bg≠r)->w'.heap[r]? =w.heap[r]?
 new:∀b i,μ b=none->aP b=some i->H.n<=b/\(w.heap.size<=i.bg\/∃c o j,H.get c=some o/\o.nh=false/\μ c=some j/\j.bg=i.bg)
 ro:∀b o i,H.get b=some o->o.nh=true->μ b=some i->aZ.get b=some o/\w'.heap[i.bg]? =w.heap[i.bg]?
 os:w'.os=w.os
 out:w'.output=w.output
 tape:w'.tape=w.tape
 drawn:w.drawn<=w'.drawn
theorem b4.refl(μ:bl)(H:aa)(w:World):b4 μ H w μ H w where
 le:=fa.refl μ
 size:=Nat.le_refl _
 n:=Nat.le_refl _
 live:=λ_ _ h=>h
 idle:=λ_ _ _=>rfl
 old:=λ_ _ _=>rfl
 new:=λb i h an=>by rw[h] at an;cases an
 ro:=λ_ _ _ h _ _=>⟨h,rfl⟩
 os:=rfl
 out:=rfl
 tape:=rfl
 drawn:=Nat.le_refl _
theorem b4.trans{μ gI AJ:bl}{H H1 a7:aa}{w cq cp:World}(aj:bm μ H w)(jB:bm gI H1 cq)(h:b4 μ H w gI H1 cq)(an:b4 gI H1 cq AJ a7 cp):b4 μ H w AJ a7 cp where
 le:=h.le.trans an.le
 size:=Nat.le_trans h.size an.size
 n:=Nat.le_trans h.n an.n
 live:=λb ag aw=>h.live b ag (an.live b (Nat.lt_of_lt_of_le ag h.n) aw)
 idle:=λb ag hm=>by
  rw[<-h.idle b ag hm]
  refine an.idle b (Nat.lt_of_lt_of_le ag h.n) ?_
  cases ab:gI b with
  |none=>rfl
  |some i=>exact absurd (h.new b i hm ab).1 (Nat.not_le.2 ag)
 old:=λr ai aJ=>by
  rw[an.old r (Nat.lt_of_lt_of_le ai h.size),h.old r ai aJ]
  intro b i aw hm he
  cases AK:μ b with
  |some j=>
   have:=h.le b j AK
   rw[hm] at this;cases this
   exact aJ b i (h.live b (aj.lt b i AK).1 aw) AK he
  |none=>
   obtain⟨_,af|⟨c,o,j,ah,_,aI,lV⟩⟩:=h.new b i AK hm
   · omega
   · exact aJ c j (by rw[ah];simp) aI (lV.trans he)
 new:=λb i ag dS=>by
  cases ab:gI b with
  |some j=>
   have:=an.le b j ab
   rw[dS] at this;cases this
   exact h.new b i ag ab
  |none=>
   obtain⟨aJ,af|⟨c,o,j,ah,hA,aI,lV⟩⟩:=an.new b i ab dS
   · exact⟨Nat.le_trans h.n aJ,.inl (Nat.le_trans h.size af)⟩
   · refine⟨Nat.le_trans h.n aJ,?_⟩
     cases h0:μ c with
     |some jS=>
      have:=h.le c jS h0
      rw[aI] at this;cases this
      have vr:H.get c≠none:=h.live c (aj.lt c j h0).1 (by rw[ah];simp)
      cases ao:H.get c with
      |none=>exact absurd ao vr
      |some gx=>
       cases ru:gx.nh with
       |false=>exact .inr ⟨c,gx,j,ao,ru,h0,lV⟩
       |true=>
        have:=(h.ro c gx j ao ru h0).1
        rw[ah] at this;cases this
        rw[hA] at ru;cases ru
     |none=>
      obtain⟨_,af|⟨c',o',jS,pb,Qz,DL,QA⟩⟩:=h.new c j h0 aI
      · exact .inl (lV▸af)
      · exact .inr ⟨c',o',jS,pb,Qz,DL,QA.trans lV⟩
 ro:=λb o i ag ai af=>by
  obtain⟨ab,ae⟩:=h.ro b o i ag ai af
  obtain⟨av,aK⟩:=an.ro b o i ab ai (h.le b i af)
  exact⟨av,aK.trans ae⟩
 os:=an.os.trans h.os
 out:=an.out.trans h.out
 tape:=an.tape.trans h.tape
 drawn:=Nat.le_trans h.drawn an.drawn
theorem bm.of_heap{μ:bl}{H:aa}{w w':World}(h:bm μ H w)(he:w'.heap=w.heap):bm μ H w' where
 rel:=λb o i ag af=>(h.rel b o i ag af).mono (fa.refl μ) (by rw[he])
 inj:=h.inj
 lt:=λb i af=>by rw[he];exact h.lt b i af
 bound:=h.bound
theorem b4.of_heap{μ:bl}{H:aa}{w w':World}(he:w'.heap=w.heap)(a8:w'.os=w.os)(aY:w'.output=w.output)(a2:w'.tape=w.tape)(aq:w.drawn<=w'.drawn:=by first|exact Nat.le_refl _|exact Nat.le_succ _|assumption):b4 μ H w μ H w' where
 le:=fa.refl μ
 size:=by rw[he];exact Nat.le_refl _
 n:=Nat.le_refl _
 live:=λ_ _ h=>h
 idle:=λ_ _ _=>rfl
 old:=λ_ _ _=>by rw[he]
 new:=λb i h an=>by rw[h] at an;cases an
 ro:=λ_ _ _ h _ _=>⟨h,by rw[he]⟩
 os:=a8
 out:=aY
 tape:=a2
 drawn:=aq
def gy(μ:bl)(b:Nat)(i:eX):bl:=λc=>if c=b then some i else μ c
theorem gz(μ:bl)(b:Nat)(i:eX):gy μ b i b=some i:=by simp[gy]
theorem ho(μ:bl){b c:Nat}(i:eX)(h:c≠b):gy μ b i c=μ c:=by simp[gy,h]
theorem bm.fresh{μ:bl}{H:aa}{w:World}(h:bm μ H w):μ H.n=none:=by
 cases e:μ H.n with
 |none=>rfl
 |some i=>exact absurd (h.lt _ _ e).1 (Nat.lt_irrefl _)
theorem bm.n6{μ:bl}{H:aa}{w:World}(h:bm μ H w)(i:eX):fa μ (gy μ H.n i):=λb j e=>by
 rw[ho];exact e
 intro ag;subst ag;rw[h.fresh] at e;cases e
theorem bm.alloc{μ:bl}{H:aa}{w:World}(h:bm μ H w)(o:b3)(x:Obj)(sz:Nat)
  (ai:ng (gy μ H.n ⟨w.heap.size,0,sz⟩) o ⟨w.heap.size,0,sz⟩ (w.alloc x)):
  bm (gy μ H.n ⟨w.heap.size,0,sz⟩) (H.push o) (w.alloc x)/\b4 μ H w (gy μ H.n ⟨w.heap.size,0,sz⟩) (H.push o) (w.alloc x):=by
 have hle:=h.n6 ⟨w.heap.size,0,sz⟩
 have hold:∀r,r<w.heap.size->(w.alloc x).heap[r]? =w.heap[r]? :=λr ai=>by
  simp only[World.alloc,Array.getElem?_push];rw[if_neg (by omega)]
 constructor
 · refine⟨λb ob i ag af=>?_,λb c i j ag ah af aI e=>?_,λb i af=>?_,λb ag=>?_⟩
   · rw[aa.eD] at ag
     by_cases e:b=H.n
     · rw[if_pos e] at ag;subst e;cases ag
       rw[gz] at af;cases af
       exact ai
     · rw[if_neg e] at ag;rw[ho _ _ e] at af
       exact(h.rel b ob i ag af).mono hle (hold _ (h.lt b i af).2)
   · by_cases aE:b=H.n
     · by_cases aC:c=H.n
       · rw[aE,aC]
       · subst aE;rw[gz] at af;cases af
         rw[ho _ _ aC] at aI
         have:=(h.lt c j aI).2
         simp only at e;omega
     · by_cases aC:c=H.n
       · subst aC;rw[gz] at aI;cases aI
         rw[ho _ _ aE] at af
         have:=(h.lt b i af).2
         simp only at e;omega
       · rw[ho _ _ aE] at af;rw[ho _ _ aC] at aI
         rw[aa.eD,if_neg aE] at ag
         rw[aa.eD,if_neg aC] at ah
         exact h.inj b c i j ag ah af aI e
   · by_cases e:b=H.n
     · subst e;rw[gz] at af;cases af;simp
     · rw[ho _ _ e] at af
       have:=h.lt b i af
       simp only[aa.eJ,World.size_alloc];omega
   · simp only[aa.eJ] at ag
     rw[aa.eD,if_neg (by omega)];exact h.bound b (by omega)
 · refine⟨hle,by simp,by simp,λb ag aw=>?_,λb ag _=>(by rw[aa.eD,if_neg (by omega)]),λr ai _=>hold r ai,λb i ag dS=>?_,λb ob i ag _ af=>?_,rfl,rfl,rfl,Nat.le_refl _⟩
   · rw[aa.eD,if_neg (by omega)] at aw;exact aw
   · by_cases e:b=H.n
     · subst e;rw[gz] at dS;cases dS;exact⟨Nat.le_refl _,.inl (Nat.le_refl _)⟩
     · rw[ho _ _ e,ag] at dS;cases dS
   · have:=h.lt b i af
     rw[aa.eD,if_neg (by omega)]
     exact⟨ag,hold _ this.2⟩
theorem bm.update{μ:bl}{H:aa}{w w':World}(h:bm μ H w){b:Nat}{o o':b3}{i:eX}(ag:H.get b=some o)(hA:o.nh=false)(af:μ b=some i)
  (hs:w'.heap.size=w.heap.size)(a8:∀r,r≠i.bg->w'.heap[r]? =w.heap[r]?)(xB:w'.os=w.os)(s6:w'.output=w.output)(DM:w'.tape=w.tape)(ai:ng μ o' i w')(hdr:w.drawn<=w'.drawn:=by first|exact Nat.le_refl _|assumption):
  bm μ (H.set b (some o')) w'/\b4 μ H w μ (H.set b (some o')) w':=by
 have vr:H.get b≠none:=by rw[ag];simp
 have qm:∀c,(H.set b (some o')).get c≠none->H.get c≠none:=λc ah=>by
  rw[aa.bH] at ah
  by_cases e:c=b
  · subst e;exact vr
  · rw[if_neg e] at ah;exact ah
 constructor
 · refine⟨λc n7 j ah aI=>?_,λc d j k ah aq=>h.inj c d j k (qm c ah) (by
     obtain⟨x,ad,pc⟩:=aq
     rw[aa.bH] at ad
     by_cases e:d=b
     · subst e;exact⟨o,ag,hA⟩
     · rw[if_neg e] at ad;exact⟨x,ad,pc⟩),λc j aI=>by rw[hs];exact h.lt c j aI,λc ah=>?_⟩
   · rw[aa.bH] at ah
     by_cases e:c=b
     · subst e;rw[if_pos rfl] at ah;cases ah
       rw[af] at aI;cases aI;exact ai
     · rw[if_neg e] at ah
       refine(h.rel c n7 j ah aI).mono (fa.refl μ) (a8 _ λcI=>e (h.inj c b j i (by rw[ah];simp) ⟨o,ag,hA⟩ aI af cI))
   · rw[aa.bH,if_neg]
     · exact h.bound c ah
     · intro e;subst e;have:=(h.lt c i af).1;simp at ah;omega
 · refine⟨fa.refl μ,by omega,by simp,λc _ ah=>qm c ah,λc _ hm=>(by rw[aa.bH,if_neg];intro e;subst e;rw[af] at hm;cases hm),λr ai aJ=>a8 r λe=>aJ b i vr af e.symm,λc j ab ae=>(by rw[ab] at ae;cases ae),λc n7 j ah rv aI=>?_,xB,s6,DM,hdr⟩
   have dK:c≠b:=by intro e;subst e;rw[ag] at ah;cases ah;rw[hA] at rv;cases rv
   refine⟨by rw[aa.bH,if_neg dK];exact ah,a8 _ λe=>dK (h.inj c b j i (by rw[ah];simp) ⟨o,ag,hA⟩ aI af e)⟩
end ay
namespace ay
open Go
theorem add_plain(b o n:Nat):(⟨b,o,none⟩:Addr).add n=⟨b,o+n,none⟩:=by
 unfold Addr.add
 by_cases h:n=0
 · simp[h]
 · simp[h]
theorem qn{α:Type}:∀(n:Nat) (l:List α),nth n l=l[n]?
 |0,[]=>rfl
 |_+1,[]=>rfl
 |0,_::_=>rfl
 |n+1,_::l=>by simpa[nth] using qn n l
theorem ni{α:Type}:∀(n:Nat) (l:List α),iO n l=l.drop n
 |0,l=>by simp[iO]
 |_+1,[]=>by simp[iO]
 |n+1,_::l=>by simpa[iO] using ni n l
theorem s7:∀(n:Nat) (l r:List J),takeN n l=some r->n<=l.length/\r=l.take n
 |0,l,r,h=>by simp[takeN] at h;subst h;simp
 |_+1,[],r,h=>by simp[takeN] at h
 |n+1,a::l,r,h=>by
  simp only[takeN] at h
  cases e:takeN n l with
  |none=>simp[e] at h
  |some r'=>
   simp[e] at h;subst h
   obtain⟨ab,ae⟩:=s7 n l r' e
   simp[ae];omega
theorem AL:∀(n:Nat) (vs cs r:List J),eP n vs cs=some r->
  r.length=cs.length/\(vs≠[]->n+vs.length<=cs.length)/\(∀v∈vs,v.bF=true)/\∀j,r[j]? =if n<=j/\j<n+vs.length then vs[j-n]? else cs[j]?
 |0,[],cs,r,h=>by
  simp[eP] at h;subst h
  refine⟨rfl,λh=>absurd rfl h,λv aH=>(by cases aH),λj=>by rw[if_neg (by simp)]⟩
 |0,_::_,[],r,h=>by simp[eP] at h
 |0,v::vs,c::cs,r,h=>by
  simp only[eP] at h
  cases ah:v.bF with
  |false=>simp[ah] at h
  |true=>
   simp only[ah] at h
   cases e:eP 0 vs cs with
   |none=>simp[e] at h
   |some r'=>
    simp[e] at h;subst h
    obtain⟨ab,ae,av,aK⟩:=AL 0 vs cs r' e
    refine⟨by simp[ab],λ_=>?_,λx ad=>?_,λj=>?_⟩
    · cases vs with
      |nil=>simp
      |cons a l=>have:=ae (by simp);simp at this⊢;omega
    · cases ad with
      |head=>exact ah
      |tail _ ad=>exact av x ad
    · cases j with
      |zero=>simp
      |succ j=>simpa using aK j
 |n+1,[],cs,r,h=>by
  simp[eP] at h;subst h
  refine⟨rfl,λh=>absurd rfl h,λv aH=>(by cases aH),λj=>by rw[if_neg (by simp)]⟩
 |n+1,_::_,[],r,h=>by simp[eP] at h
 |n+1,v::vs,c::cs,r,h=>by
  simp only[eP] at h
  cases e:eP n (v::vs) cs with
  |none=>simp[e] at h
  |some r'=>
   simp[e] at h;subst h
   obtain⟨ab,ae,av,aK⟩:=AL n (v::vs) cs r' e
   refine⟨by simp[ab],λ_=>?_,av,λj=>?_⟩
   · have:=ae (by simp);simp at this⊢;omega
   · cases j with
     |zero=>simp
     |succ j=>
      have:=aK j
      simp only[List.getElem?_cons_succ,this,List.length_cons]
      have aE:(n+1<=j+1/\j+1<n+1+(vs.length+1))<->(n<=j/\j<n+(vs.length+1)):=by omega
      have aC:j+1-(n+1)=j-n:=by omega
      simp only[aE,aC]
theorem IG{w:World}{bg el fO fP:Nat}{c:Array Value}(h:w.heap[bg]? =some (.cells c el (fO,fP)))(k:Nat):w.cell? ⟨bg,k,none⟩=c[k]? :=by
 simp[World.cell?,h]
theorem IH{μ:bl}{H:aa}{w:World}(aj:bm μ H w){b off:Nat}{i:eX}(af:μ b=some i){cs:List J}{el aW eQ:Nat}{k:eZ}(ag:H.get b=some (.cells cs el k aW eQ))
  {v:J}(aH:cs[off]? =some v):∃u,w.cell? ⟨i.bg,i.base+off,none⟩=some u/\bd μ v u:=by
 obtain⟨c,fO,fP,ab,ae,_⟩:=aj.rel b _ i ag af
 obtain⟨u,hu,r⟩:=ae off v aH
 exact⟨u,by rw[IG ab,hu],r⟩
theorem II{P:Program}{w:World}{a:Addr}{u:Value}(h:w.cell? a=some u):(_root_.Go.load a).run P w=.ok u w:=by
 rw[run_load];simp[h]
theorem QB{P:Program}{μ:bl}{H:aa}{w:World}(aj:bm μ H w){b:Nat}{i:eX}(af:μ b=some i){cs:List J}{el aW eQ:Nat}{k:eZ}(ag:H.get b=some (.cells cs el k aW eQ))(off:Nat):
  ∀(n s:Nat) (acc:Array Value) (ry:List J),takeN n (iO (off+s) cs)=some ry->
   ∃us:List Value,(loadCellsFrom ⟨i.bg,i.base+off,none⟩ s n acc).run P w=.ok (acc++us.toArray) w/\b9 μ ry us:=by
 intro n
 induction n with
 |zero=>
  intro s acc ry h
  simp[takeN] at h;subst h
  exact⟨[],by simp[loadCellsFrom],rfl⟩
 |succ n bp=>
  intro s acc ry h
  rw[ni] at h
  cases aq:cs.drop (off+s) with
  |nil=>rw[aq] at h;simp[takeN] at h
  |cons a l=>
   rw[aq] at h
   simp only[takeN] at h
   cases e:takeN n l with
   |none=>simp[e] at h
   |some r=>
    simp[e] at h;subst h
    have a5:cs[off+s]? =some a:=by
     have:=congrArg (·[0]?) aq
     simpa[List.getElem?_drop] using this
    have aw:l=iO (off+(s+1)) cs:=by
     rw[ni]
     have:=congrArg (List.drop 1) aq
     simp only[List.drop_drop,List.drop_succ_cons,List.drop_zero] at this
     rw[<-this];congr 1
    obtain⟨u,hu,ai⟩:=IH aj af ag a5
    obtain⟨us,ab,ae⟩:=bp (s+1) (acc.push u) r (by rw[<-aw];exact e)
    refine⟨u::us,?_,⟨u,us,rfl,ai,ae⟩⟩
    have n8:w.cell? ((⟨i.bg,i.base+off,none⟩:Addr).add s)=some u:=by rw[add_plain,Nat.add_assoc];exact hu
    simp only[loadCellsFrom,Sem.run_bind,II n8,Result.andThen_ok,ab]
    congr 1
    apply Array.ext'
    simp
theorem rz{P:Program}{μ:bl}{H:aa}{w:World}(aj:bm μ H w){b off n:Nat}{i:eX}(af:μ b=some i){ry:List J}(h:loadCells H b off n=some ry):
  ∃us:List Value,(_root_.Go.loadCells ⟨i.bg,i.base+off,none⟩ n).run P w=.ok ⟨us⟩ w/\b9 μ ry us:=by
 unfold loadCells at h
 split at h
 · rename_i cs el k aW eQ ag
   obtain⟨us,ab,ae⟩:=QB (P:=P) aj af ag off n 0 #[] ry h
   exact⟨us,by simpa[_root_.Go.loadCells] using ab,ae⟩
 · cases h
theorem DN{P:Program}{μ:bl}{H:aa}{w:World}(aj:bm μ H w){b off:Nat}{i:eX}(af:μ b=some i){v:J}(h:aA H b off=some v):
  ∃u,(_root_.Go.load ⟨i.bg,i.base+off,none⟩).run P w=.ok u w/\bd μ v u:=by
 unfold aA at h
 split at h
 · rename_i cs el k aW eQ ag
   rw[qn] at h
   obtain⟨u,hu,ai⟩:=IH aj af ag h
   exact⟨u,II hu,ai⟩
 · cases h
theorem IJ(P:Program)(bg k:Nat):∀(vs:List Value) (w:World) (i:Nat) (c:Array Value) (el fO fP:Nat),w.heap[bg]? =some (.cells c el (fO,fP))->
  (∀v∈vs,v.oneCell'=true)->k+i+vs.length<=c.size->(∀j,k+i<=j->j<k+i+vs.length->¬(fO<=j/\j<fP))->
  ∃w' c',(_root_.Go.storeCells ⟨bg,k,none⟩ vs i).run P w=.ok () w'/\w'.heap[bg]? =some (.cells c' el (fO,fP))/\(∀r,r≠bg->w'.heap[r]? =w.heap[r]?)/\w'.heap.size=w.heap.size/\
   w'.os=w.os/\w'.output=w.output/\(w'.tape=w.tape/\w'.drawn=w.drawn)/\c'.size=c.size/\∀j,c'[j]? =if k+i<=j/\j<k+i+vs.length then vs[j-(k+i)]? else c[j]? :=by
 intro vs
 induction vs with
 |nil=>
  intro w i c el fO fP ag _ _ _
  exact⟨w,c,by simp[_root_.Go.storeCells],ag,λ_ _=>rfl,rfl,rfl,rfl,⟨rfl,rfl⟩,rfl,λj=>by rw[if_neg (by simp)]⟩
 |cons v vs bp=>
  intro w i c el fO fP ag ah hs hf
  simp only[List.length_cons] at hs hf
  have cx:k+i<c.size:=by omega
  have rA:w.cell? ⟨bg,k+i,none⟩=some c[k+i]:=by rw[IG ag];exact Array.getElem?_eq_getElem cx
  have AM:w.frozen? ⟨bg,k+i,none⟩=false:=by
   have:=hf (k+i) (by omega) (by omega)
   simp only[World.frozen?,ag]
   cases ab:decide (fO<=k+i) with
   |false=>rfl
   |true=>
    cases ae:decide (k+i<fP) with
    |false=>rfl
    |true=>exact absurd ⟨of_decide_eq_true ab,of_decide_eq_true ae⟩ this
  have iF:(w.setCell ⟨bg,k+i,none⟩ v).heap[bg]? =some (.cells (c.setIfInBounds (k+i) v) el (fO,fP)):=by
   simp[World.setCell,Array.getElem?_modify,ag]
  obtain⟨w',c',ab,ae,av,aK,bU,cB,eo,fG,fH⟩:=bp (w.setCell ⟨bg,k+i,none⟩ v) (i+1) (c.setIfInBounds (k+i) v) el fO fP iF (λx ad=>ah x (.tail _ ad)) (by simp;omega)
   (λj acN pd=>hf j (by omega) (by omega))
  refine⟨w',c',?_,ae,λr ai=>?_,?_,bU,cB,eo,by simpa using fG,λj=>?_⟩
  · simp only[_root_.Go.storeCells,Sem.run_bind,add_plain,run_store P w ⟨bg,k+i,none⟩ v .plain (ah v (.head _)),rA,AM,Bool.false_eq_true,if_false,Result.andThen_ok,ab]
  · rw[av r ai];simp only[World.setCell,Array.getElem?_modify]
    rw[if_neg (λe=>ai e.symm)]
  · rw[aK];simp[World.setCell]
  · rw[fH j]
    by_cases e:j=k+i
    · subst e
      rw[if_neg (by omega),if_pos (by simp),Array.getElem?_setIfInBounds]
      simp[cx]
    · by_cases aC:k+(i+1)<=j/\j<k+(i+1)+vs.length
      · rw[if_pos aC,if_pos (by simp only[List.length_cons];omega)]
        have:j-(k+i)=(j-(k+(i+1)))+1:=by omega
        rw[this];simp
      · rw[if_neg aC,if_neg (by simp only[List.length_cons];omega),Array.getElem?_setIfInBounds]
        rw[if_neg (λcI=>e cI.symm)]
theorem b9.xA{μ:bl}:∀{as:List J} {vs:List Value},b9 μ as vs->(∀a∈as,a.bF=true)->∀v∈vs,v.oneCell'=true
 |[],_,h,_=>by cases h;intro v aH;cases aH
 |a::as,_,⟨v,vs,e,ab,ae⟩,ah=>by
  subst e
  intro x ad
  cases ad with
  |head=>exact ab.xA (ah a (.head _))
  |tail _ ad=>exact b9.xA ae (λa a5=>ah a (.tail _ a5)) x ad
theorem QC{k:eZ}{aW af off n:Nat}(hw:jv k aW af off n=true){cs:List J}{i:eX}{fO fP:Nat}(au:DJ k cs i aW af fO fP)(dL:n=0\/off+n<=i.size):
  ∀j,i.base+off<=j->j<i.base+off+n->¬(fO<=j/\j<fP):=by
 intro j ab ae ⟨av,aK⟩
 cases k with
 |ro=>simp[jv] at hw
 |fz=>simp[jv] at hw
 |own=>
  obtain⟨ag,hs,rfl,rfl⟩:=au
  simp only[jv,Bool.or_eq_true,Nat.ble_eq] at hw
  omega
 |aM=>
  obtain⟨hs,hf⟩:=au
  simp only[jv,Bool.or_eq_true,Nat.ble_eq] at hw
  have:=hf (j-i.base) (by omega) (by omega) (by omega)
  omega
theorem xC{P:Program}{μ:bl}{H:aa}{w:World}(aj:bm μ H w){b off:Nat}{i:eX}(af:μ b=some i){vs:List J}{us:List Value}(aH:b9 μ vs us){aZ:aa}
  (h:storeCells H b off vs=some aZ):
  ∃w',(_root_.Go.storeCells ⟨i.bg,i.base+off,none⟩ us).run P w=.ok () w'/\bm μ aZ w'/\b4 μ H w μ aZ w':=by
 unfold storeCells at h
 split at h
 · rename_i cs el k aW eQ ag
   split at h
   · rename_i hw
     split at h
     · rename_i bS aY
       cases h
       obtain⟨di,da,kD,kE⟩:=AL _ _ _ _ aY
       obtain⟨c,fO,fP,ab,ae,av,aK⟩:=aj.rel b _ i ag af
       have hlen:=aH.length
       have bE:vs≠[]->off+vs.length<=i.size/\i.base+off+vs.length<=c.size:=λdK=>by
        have:=da dK
        have rB:=ae (cs.length-1) (cs[cs.length-1]'(by cases vs with|nil=>exact absurd rfl dK|cons a l=>simp at this;omega)) (List.getElem?_eq_getElem _)
        obtain⟨u,hu,_⟩:=rB
        have cx:i.base+(cs.length-1)<c.size:=by
         rcases Nat.lt_or_ge (i.base+(cs.length-1)) c.size with h|h
         · exact h
         · rw[Array.getElem?_eq_none h] at hu;cases hu
        have AN:0<vs.length:=by cases vs with|nil=>exact absurd rfl dK|cons a l=>simp
        cases k with
        |ro=>simp[jv] at hw
        |fz=>simp[jv] at hw
        |own=>obtain⟨ds,eu,_⟩:=aK;omega
        |aM=>obtain⟨ds,_⟩:=aK;omega
       by_cases dK:vs=[]
       · subst dK
         have:us=[]:=by cases us with|nil=>rfl|cons a l=>simp at hlen
         subst this
         have iR:bS=cs:=by
          apply List.ext_getElem?
          intro j;rw[kE j,if_neg (by simp)]
         subst iR
         obtain⟨ba,bt⟩:=aj.update (w':=w) ag (by cases k<;>first|rfl|simp[jv] at hw) af rfl (λ_ _=>rfl) rfl rfl rfl (aj.rel b _ i ag af)
         exact⟨w,by simp[_root_.Go.storeCells],ba,bt⟩
       · obtain⟨s1,s2⟩:=bE dK
         obtain⟨w',c',aE,aC,bu,cX,gJ,eK,eE,fQ,gT⟩:=IJ P i.bg (i.base+off) us w 0 c el fO fP ab (aH.xA kD) (by omega)
          (by have:=QC hw aK (.inr s1);rw[hlen] at this;simpa using this)
         obtain⟨ba,bt⟩:=aj.update (w':=w') (o':=.cells bS el k aW eQ) ag (by cases k<;>first|rfl|simp[jv] at hw) af cX bu gJ eK eE.1 (hdr:=Nat.le_of_eq eE.2.symm)
          ⟨c',fO,fP,aC,λj v aI=>by
           rw[kE j] at aI
           rw[gT]
           by_cases ai:off<=j/\j<off+vs.length
           · rw[if_pos ai] at aI
             rw[if_pos (by omega)]
             have:i.base+j-(i.base+off+0)=j-off:=by omega
             rw[this];exact aH.get aI
           · rw[if_neg ai] at aI
             rw[if_neg (by omega)]
             exact ae j v aI,by omega,by
           cases k with
           |ro=>trivial
           |fz=>trivial
           |own=>obtain⟨ds,eu,jj⟩:=aK;exact⟨ds,by omega,jj⟩
           |aM=>obtain⟨ds,eu⟩:=aK;exact⟨by omega,eu⟩⟩
         exact⟨w',aE,ba,bt⟩
     · cases h
   · cases h
 · cases h
theorem World.heap_alloc_new(w:World)(x:Obj):(w.alloc x).heap[w.heap.size]? =some x:=by unfold World.alloc;simp
theorem AO{P:Program}{μ:bl}{H:aa}{w:World}(aj:bm μ H w){el b:Nat}{cs:List J}{us:List Value}{aZ:aa}(aH:b9 μ cs us)(h:newRow H el cs=some (b,aZ)):
  (_root_.Go.newRow el ⟨us⟩).run P w=.ok ⟨w.heap.size,0,none⟩ (w.alloc (.cells ⟨us⟩ el))/\b=H.n/\gy μ H.n ⟨w.heap.size,0,us.length⟩ b=some ⟨w.heap.size,0,us.length⟩/\
   bm (gy μ H.n ⟨w.heap.size,0,us.length⟩) aZ (w.alloc (.cells ⟨us⟩ el))/\b4 μ H w (gy μ H.n ⟨w.heap.size,0,us.length⟩) aZ (w.alloc (.cells ⟨us⟩ el)):=by
 unfold newRow at h
 split at h
 · cases h
   have hle:=aj.n6 ⟨w.heap.size,0,us.length⟩
   obtain⟨ba,bt⟩:=aj.alloc (.cells cs el .own 0 0) (.cells ⟨us⟩ el) us.length
    ⟨⟨us⟩,0,0,by exact World.heap_alloc_new _ _,λj v aI=>by
      obtain⟨u,hu,ai⟩:=aH.get aI
      exact⟨u,by simpa using hu,ai.mono hle⟩,by simp,rfl,aH.length.symm,rfl,rfl⟩
   exact⟨by simp[_root_.Go.newRow],rfl,gz _ _ _,ba,bt⟩
 · cases h
section types
variable {P:Program} {w:World} {t:TypeId}
theorem run_typeInfo{i:TypeInfo}(h:P.info? t=some i):(typeInfo t).run P w=.ok i w:=by simp[typeInfo,h]
theorem bO{d:TypeDesc}(h:P.underlying t=some d):(underlying t).run P w=.ok d w:=by simp[underlying,h]
theorem run_sizeOf{n:Nat}(h:dm P t=some n):(_root_.Go.sizeOf t).run P w=Result.ok n w:=by
 unfold dm at h
 split at h
 · rename_i i af;cases h;simp[_root_.Go.sizeOf,run_typeInfo af]
 · cases h
theorem vu{b:Bool}(h:lf P t=some b):(isAgg t).run P w=.ok b w:=by
 unfold lf at h
 cases hu:P.underlying t with
 |none=>rw[hu] at h;cases h
 |some d=>
  rw[hu] at h
  simp only[isAgg,Sem.run_bind,bO hu,Result.andThen_ok]
  cases d<;>cases h<;>rfl
theorem lW{z:J}(h:eG P t=some z):∃v,(zeroValue t).run P w=.ok v w/\z=n0 v/\z≠ .bad:=by
 unfold eG at h
 split at h
 · rename_i i af
   split at h
   · rename_i v aH
     split at h
     · cases h
     · rename_i a dK
       cases h
       exact⟨v,by simp[zeroValue,run_typeInfo af,aH],rfl,dK⟩
   · cases h
 · cases h
end types
end ay
namespace ay
open Go
def fs(P:Program)(μ:bl)(H:aa)(w:World)(s:Sem Value)(v:J)(aZ:aa):Prop:=
 ∃aP w' v',s.run P w=.ok v' w'/\bd aP v v'/\bm aP aZ w'/\b4 μ H w aP aZ w'
theorem fs.same{P:Program}{μ:bl}{H:aa}{w:World}{s:Sem Value}{v:J}{v':Value}(aj:bm μ H w)(hs:s.run P w=.ok v' w)(aH:bd μ v v'):fs P μ H w s v H:=
 ⟨μ,w,v',hs,aH,aj,b4.refl _ _ _⟩
section
variable {P:Program} {μ:bl} {H:aa} {w:World}
theorem QD(aj:bm μ H w){e:TypeId}{z:J}(a0:eG P e=some z){b:Nat}{aZ:aa}(ai:newRow H e z.cells=some (b,aZ)):
  fs P μ H w (Instr.alloc e true (.tuple #[])) (.ptr b 0) aZ:=by
 obtain⟨v,aH,rfl,ag⟩:=lW (w:=w) a0
 have ah:=(ke μ v).cells ag
 obtain⟨ab,rfl,ae,av,aK⟩:=AO (P:=P) aj ah ai
 refine⟨_,_,.pointer (some ⟨w.heap.size,0,none⟩),?_,⟨_,ae,by simp⟩,av,aK⟩
 simp[Instr.alloc,aH,newVar,ab]
theorem QE(aj:bm μ H w){e:TypeId}{x:J}{v:Value}(aH:bd μ x v){b:Nat}{aZ:aa}(ai:newRow H e x.cells=some (b,aZ)):
  fs P μ H w (Instr.box e v) (.ptr b 0) aZ:=by
 have ag:x≠ .bad:=by intro h;rw[h] at ai;simp[newRow,J.cells,J.bF] at ai
 obtain⟨ab,rfl,ae,av,aK⟩:=AO (P:=P) aj (aH.cells ag) ai
 refine⟨_,_,.pointer (some ⟨w.heap.size,0,none⟩),?_,⟨_,ae,by simp⟩,av,aK⟩
 simp[Instr.box,newVar,ab]
theorem QF(aj:bm μ H w){t:TypeId}{b off:Nat}{v:Value}(aH:bd μ (.ptr b off) v):
  (∀n cs,lf P t=some true->dm P t=some n->loadCells H b off n=some cs->fs P μ H w (Instr.loadAt t v) (.agg cs) H)/\
  (∀x,lf P t=some false->aA H b off=some x->fs P μ H w (Instr.loadAt t v) x H):=by
 obtain⟨i,af,rfl⟩:=aH
 constructor
 · intro n cs a5 aJ aw
   obtain⟨us,ab,ae⟩:=rz (P:=P) aj af aw
   exact .same aj (v':=.agg ⟨us⟩) (by simp[Instr.loadAt,Instr.sureAddr,loadVar,vu a5,run_sizeOf aJ,ab]) ⟨us,rfl,ae⟩
 · intro x a5 aw
   obtain⟨u,ab,ae⟩:=DN (P:=P) aj af aw
   exact .same aj (v':=u) (by simp only[Instr.loadAt,Instr.sureAddr,loadVar,Sem.run_bind,Sem.run_pure,Result.andThen_ok,vu a5,Bool.false_eq_true,if_false,ab]) ae
theorem QG(aj:bm μ H w){t:TypeId}{b off n:Nat}{v u:Value}{x:J}(aH:bd μ (.ptr b off) v)(ad:bd μ x u)(ag:x≠ .bad)(aJ:dm P t=some n)(aw:x.cells.length=n)
  {aZ:aa}(hs:storeCells H b off x.cells=some aZ):
  ∃w',(Instr.storeAt t v u).run P w=.ok () w'/\bm μ aZ w'/\b4 μ H w μ aZ w':=by
 obtain⟨i,af,rfl⟩:=aH
 have ah:=ad.cells ag
 obtain⟨w',ab,ae,av⟩:=xC (P:=P) aj af ah hs
 refine⟨w',?_,ae,av⟩
 have bE:u.cells.size=n:=by have:=ah.length;rw[aw] at this;simpa using this.symm
 simp[Instr.storeAt,Instr.sureAddr,storeVar,run_sizeOf aJ,bE,ab]
theorem IK(off:Nat):∀(l:List Value) (s:Nat) (cs:Array Value),off+s+l.length<=cs.size->
  ((l.zipIdx s).foldl (λcs (x:Value×Nat)=>cs.setIfInBounds (off+x.2) x.1) cs).size=cs.size/\
  ∀j:Nat,((l.zipIdx s).foldl (λcs (x:Value×Nat)=>cs.setIfInBounds (off+x.2) x.1) cs)[j]? =if off+s<=j/\j<off+s+l.length then l[j-(off+s)]? else cs[j]?
 |[],s,cs,_=>by
  refine⟨rfl,λj=>by rw[if_neg (by simp)];rfl⟩
 |a::l,s,cs,h=>by
  simp only[List.length_cons] at h
  obtain⟨ab,ae⟩:=IK off l (s+1) (cs.setIfInBounds (off+s) a) (by simp;omega)
  simp only[List.zipIdx_cons,List.foldl_cons]
  refine⟨by rw[ab];simp,λj=>?_⟩
  rw[ae j]
  by_cases e:j=off+s
  · subst e
    rw[if_neg (by omega),if_pos (by simp),Array.getElem?_setIfInBounds]
    simp;omega
  · by_cases aC:off+(s+1)<=j/\j<off+(s+1)+l.length
    · rw[if_pos aC,if_pos (by simp only[List.length_cons];omega)]
      have:j-(off+s)=(j-(off+(s+1)))+1:=by omega
      rw[this];simp
    · rw[if_neg aC,if_neg (by simp only[List.length_cons];omega),Array.getElem?_setIfInBounds,if_neg (λcI=>e cI.symm)]
theorem xD(place:Nat->Option (Nat×Nat)){s4:Type}(g:s4->J)(cn:s4->Value)(ao:∀x,bd μ (g x) (cn x)):∀(ps:List (Nat×s4)) (cs r:List J) (c:Array Value),b9 μ cs c.toList->
  jR place cs (ps.map λp=>(p.1,g p.2))=some r->∃c':List Value,Instr.fill place c (ps.map λp=>(p.1,cn p.2))=some ⟨c'⟩/\b9 μ r c'
 |[],cs,r,c,ah,h=>by
  simp[jR] at h;subst h
  exact⟨c.toList,by simp[Instr.fill],ah⟩
 |(k,x)::ps,cs,r,c,ah,h=>by
  simp only[List.map_cons] at h⊢
  have aH:=ao x
  generalize g x=v at h aH
  generalize cn x=u at aH⊢
  have ag:v≠ .bad:=by intro e;subst e;simp[jR] at h
  have xE:∃off size bS,place k=some (off,size)/\v.cells.length=size/\off+size<=cs.length/\eP off v.cells cs=some bS/\jR place bS (ps.map λp=>(p.1,g p.2))=some r:=by
   cases v<;>first
    |exact absurd rfl ag
    |(simp only[jR] at h
      split at h
      · cases h
      · rename_i off size n9
        split at h
        · rename_i bE
          simp only[Bool.and_eq_true,Nat.ble_eq] at bE
          split at h
          · rename_i bS xF
            exact⟨off,size,bS,n9,Nat.eq_of_beq_eq_true bE.1,bE.2,xF,h⟩
          · cases h
        · cases h)
  obtain⟨off,size,bS,n9,bE,hbound,xF,rC⟩:=xE
  obtain⟨di,da,kD,kE⟩:=AL _ _ _ _ xF
  have jT:=aH.cells ag
  have aw:=jT.length
  have rD:=ah.length
  have av:c.toList.length=c.size:=by simp
  have QH:u.cells.size=size:=by rw[<-bE,aw];simp
  obtain⟨f1,f2⟩:=IK off u.cells.toList 0 c (by simp;omega)
  have QI:(u.cells.zipIdx.foldl (λcs (x:Value×Nat)=>cs.setIfInBounds (off+x.2) x.1) c)=((u.cells.toList.zipIdx 0).foldl (λcs (x:Value×Nat)=>cs.setIfInBounds (off+x.2) x.1) c):=by
   rw[<-Array.foldl_toList,Array.toList_zipIdx]
  have key:b9 μ bS (u.cells.zipIdx.foldl (λcs (x:Value×Nat)=>cs.setIfInBounds (off+x.2) x.1) c).toList:=by
   rw[QI]
   refine b9.xz (by rw[di,rD];simpa using f1.symm) λj a a5=>?_
   rw[kE j] at a5
   rw[Array.getElem?_toList,f2 j]
   have rE:u.cells.toList.length=v.cells.length:=aw.symm
   by_cases ai:off<=j/\j<off+v.cells.length
   · rw[if_pos ai] at a5;rw[if_pos (by omega)]
     exact jT.get (by simpa using a5)
   · rw[if_neg ai] at a5;rw[if_neg (by omega)]
     simpa using ah.get a5
  obtain⟨c',al,ak⟩:=xD place g cn ao ps bS r _ key rC
  refine⟨c',?_,ak⟩
  simp only[Instr.fill,n9,QH]
  rw[if_neg (by simp;omega)]
  exact al
theorem QJ{t:TypeId}{n:Nat}(h:dm P t=some n):P.cellsOf t=n:=by
 unfold dm at h
 split at h
 · rename_i i af;cases h;simp[Program.cellsOf,af]
 · cases h
theorem run_places(w:World):∀l:List Field,(l.all λf=>(dm P f.type).isSome)=true->
  (l.mapM (λf=>do pure (f.offset,<-_root_.Go.sizeOf f.type):Field->Sem (Nat×Nat))).run P w=.ok (l.map λf=>(f.offset,P.cellsOf f.type)) w
 |[],_=>rfl
 |f::l,h=>by
  simp only[List.all_cons,Bool.and_eq_true] at h
  obtain⟨n,aJ⟩:=Option.isSome_iff_exists.1 h.1
  simp only[List.mapM_cons,Sem.run_bind,run_sizeOf aJ,Result.andThen_ok,Sem.run_pure,run_places w l h.2,List.map_cons,QJ aJ]
theorem QK(aj:bm μ H w)(g:Operand->J)(cn:Operand->Value)(ao:∀x,bd μ (g x) (cn x)){t:TypeId}{z:J}(a0:eG P t=some z){ct:Array Field}(hu:P.underlying t=some (.struct ct))
  (fI:(ct.toList.all λf=>(dm P f.type).isSome)=true)(parts:Array (Nat×Operand)){cs:List J}
  (hf:jR (λi=>(ct[i]?).map λf=>(f.offset,P.cellsOf f.type)) z.cells (parts.toList.map λp=>(p.1,g p.2))=some cs):
  fs P μ H w (Instr.build t (parts.map λ(i,x)=>(i,cn x))) (.agg cs) H:=by
 obtain⟨v,aH,rfl,ag⟩:=lW (w:=w) a0
 have ah:=(ke μ v).cells ag
 obtain⟨c',ab,ae⟩:=xD _ g cn ao parts.toList _ cs v.cells ah hf
 have aY:=run_places (P:=P) w ct.toList fI
 refine .same aj (v':=.agg ⟨c'⟩) ?_ ⟨c',rfl,ae⟩
 have hm:(ct.mapM (λf=>do pure (f.offset,<-_root_.Go.sizeOf f.type):Field->Sem (Nat×Nat))).run P w=.ok (ct.map λf=>(f.offset,P.cellsOf f.type)) w:=by
  obtain⟨l⟩:=ct
  have e:(l.toArray.mapM (λf=>do pure (f.offset,<-_root_.Go.sizeOf f.type):Field->Sem (Nat×Nat)))=List.toArray<$>l.mapM (λf=>do pure (f.offset,<-_root_.Go.sizeOf f.type)):=List.mapM_toArray
  refine(congrArg (λs:Sem (Array (Nat×Nat))=>s.run P w) e).trans ?_
  simp only[Sem.run_map]
  rw[show(Sem.run P (List.mapM (λf=>do pure (f.offset,<-_root_.Go.sizeOf f.type):Field->Sem (Nat×Nat)) l) w)=_ from aY];simp
 have QL:(λi:Nat=>(ct.map λf=>(f.offset,P.cellsOf f.type))[i]?)=λi=>(ct[i]?).map λf=>(f.offset,P.cellsOf f.type):=by
  funext i;simp
 simp only[Instr.build,Sem.run_bind,aH,Result.andThen_ok,bO hu,hm,QL,Array.toList_map,ab]
 rfl
theorem QM(aj:bm μ H w)(g:Operand->J)(cn:Operand->Value)(ao:∀x,bd μ (g x) (cn x)){t e:TypeId}{n sz:Nat}{z:J}(a0:eG P t=some z)(hu:P.underlying t=some (.array n e))
  (hs:dm P e=some sz)(parts:Array (Nat×Operand)){cs:List J}
  (hf:jR (λi=>some (i*sz,sz)) z.cells (parts.toList.map λp=>(p.1,g p.2))=some cs):
  fs P μ H w (Instr.build t (parts.map λ(i,x)=>(i,cn x))) (.agg cs) H:=by
 obtain⟨v,aH,rfl,ag⟩:=lW (w:=w) a0
 have ah:=(ke μ v).cells ag
 obtain⟨c',ab,ae⟩:=xD _ g cn ao parts.toList _ cs v.cells ah hf
 refine .same aj (v':=.agg ⟨c'⟩) ?_ ⟨c',rfl,ae⟩
 simp only[Instr.build,Sem.run_bind,aH,Result.andThen_ok,bO hu,run_sizeOf hs,Array.toList_map,ab]
 rfl
theorem IL{α:Type}(n:Nat)(l:List α):(e8 n l).length=n*l.length:=by
 induction n with
 |zero=>simp[e8]
 |succ n bp=>simp[e8,bp,Nat.succ_mul];omega
theorem IM{α:Type}:∀(n:Nat) (l:List α) (j:Nat),j<n*l.length->(e8 n l)[j]? =l[j %l.length]?
 |0,l,j,h=>by simp at h
 |n+1,l,j,h=>by
  simp only[e8]
  by_cases e:j<l.length
  · rw[List.getElem?_append_left e,Nat.mod_eq_of_lt e]
  · rw[List.getElem?_append_right (by omega),IM n l (j-l.length) (by rw[Nat.succ_mul] at h;omega)]
    have:(j-l.length) %l.length=j %l.length:=by
     have aj:j=(j-l.length)+l.length:=by omega
     conv=>rhs;rw[aj,Nat.add_mod_right]
    rw[this]
theorem xG{nj:List J}{zero:Array Value}(a0:b9 μ nj zero.toList){sz:Nat}(hs:nj.length=sz)(n:Nat):
  b9 μ (e8 n nj) ((Array.range (n*sz)).map (λi=>zero[i %zero.size]!)).toList:=by
 have aw:=a0.length
 have av:zero.toList.length=zero.size:=by simp
 refine b9.xz (by rw[IL,hs];simp) λj a a5=>?_
 have aI:j<n*nj.length:=by
  rcases Nat.lt_or_ge j (n*nj.length) with h|h
  · exact h
  · rw[List.getElem?_eq_none (by rw[IL];exact h)] at a5;cases a5
 rw[IM n nj j aI] at a5
 obtain⟨u,hu,ai⟩:=a0.get a5
 refine⟨u,?_,ai⟩
 have AN:0<nj.length:=by
  rcases Nat.eq_zero_or_pos nj.length with h|h
  · rw[h] at aI;simp at aI
  · exact h
 have cx:j %zero.size<zero.size:=Nat.mod_lt _ (by omega)
 have aE:nj.length=zero.size:=by omega
 rw[aE] at hu
 rw[Array.getElem?_toList] at hu
 rw[Array.getElem?_toList,Array.getElem?_map,Array.getElem?_range]
 rw[if_pos (by rw[<-hs];exact aI)]
 simp only[Option.map_some]
 rw[Array.getElem?_eq_getElem cx] at hu
 simp only[Option.some.injEq] at hu
 rw[getElem!_pos zero _ cx,hu]
theorem QN(aj:bm μ H w)(g:Operand->J)(cn:Operand->Value)(ao:∀x,bd μ (g x) (cn x)){t e:TypeId}{len sz:Nat}{z:J}(hu:P.underlying t=some (.slice e))(hs:dm P e=some sz)
  (a0:eG P e=some z)(hle:len*sz<=16777216)(n_:z.cells.length=sz)(parts:Array (Nat×Operand)){cs:List J}
  (hf:jR (λi=>some (i*sz,sz)) (if len*sz=0 then[] else e8 len z.cells) (parts.toList.map λp=>(p.1,g p.2))=some cs){b:Nat}{aZ:aa}(ai:newRow H e cs=some (b,aZ)):
  fs P μ H w (Instr.buildSlice t len (parts.map λ(i,x)=>(i,cn x))) (.slice b 0 len (.exact len)) aZ:=by
 obtain⟨v,aH,rfl,ag⟩:=lW (w:=w) a0
 have ah:=(ke μ v).cells ag
 have s8:¬(len*sz>2^24):=by omega
 have key:∀zero:Array Value,b9 μ (if len*sz=0 then[] else e8 len (n0 v).cells) ((Array.range (len*sz)).map (λi=>zero[i %zero.size]!)).toList->
   (∀r:Result Value,r=(match Instr.fill (λi=>some (i*sz,sz)) ((Array.range (len*sz)).map (λi=>zero[i %zero.size]!)) (parts.toList.map λp=>(p.1,cn p.2)) with
    |some cells=>do pure (.slice (some (<-_root_.Go.newRow e cells)) len len)
    |none=>stuck "buildSlice: a part of the wrong size" :Sem Value).run P w->(Instr.buildSlice t len (parts.map λ(i,x)=>(i,cn x))).run P w=r)->
   fs P μ H w (Instr.buildSlice t len (parts.map λ(i,x)=>(i,cn x))) (.slice b 0 len (.exact len)) aZ:=by
  intro zero qo eL
  obtain⟨c',ab,ae⟩:=xD _ g cn ao parts.toList _ cs _ qo hf
  obtain⟨aQ,rfl,bw,cl,cC⟩:=AO (P:=P) aj ae ai
  refine⟨_,_,.slice (some ⟨w.heap.size,0,none⟩) len len,?_,⟨_,bw,by simp[DG]⟩,cl,cC⟩
  refine eL _ ?_
  rw[ab]
  simp[aQ]
 by_cases h0:len*sz=0
 · refine key #[] (by rw[if_pos h0,h0];simp[b9]) λr ai=>?_
   rw[ai]
   simp only[Instr.buildSlice,Sem.run_bind,bO hu,Result.andThen_ok,run_sizeOf hs,if_neg s8,if_pos h0,Sem.run_pure,Array.toList_map]
   generalize Instr.fill _ _ _=F
   cases F<;>rfl
 · refine key v.cells (by rw[if_neg h0];exact xG ah n_ len) λr ai=>?_
   rw[ai]
   simp only[Instr.buildSlice,Sem.run_bind,bO hu,Result.andThen_ok,run_sizeOf hs,if_neg s8,if_neg h0,Sem.run_pure,Array.toList_map,aH]
   generalize Instr.fill _ _ _=F
   cases F<;>rfl
end
end ay
namespace ay
open Go
theorem rF(n:Nat)(h:n<9223372036854775808):IntKind.wrap .i64 (n:Int)=(n:Int):=by
 have e:((n:Int) %18446744073709551616)=n:=by omega
 have aC:(2:Int)^64=18446744073709551616:=by rfl
 have bu:(2:Int)^63=9223372036854775808:=by rfl
 simp only[IntKind.wrap,IntKind.bits,IntKind.signed,aC,bu,e,Bool.true_and,decide_eq_true_eq,Nat.add_one_sub_one]
 rw[if_neg (by show¬((2:Int)^63<=n);rw[bu];omega)]
section
variable {P:Program} {μ:bl} {H:aa} {w:World}
theorem QO(aj:bm μ H w){t e:TypeId}{l c:Nat}{i:TypeInfo}{z:J}{kl kc:IntKind}(hu:P.underlying t=some (.slice e))(af:P.info? e=some i)(a0:eG P e=some z)(rD:l<=c)
  (vw:c*(i.bytes+1)<=1099511627776)(n_:z.cells.length=i.size){b:Nat}{aZ:aa}(ai:newRow H e (if c*i.size=0 then[] else e8 c z.cells)=some (b,aZ)):
  fs P μ H w (Instr.makeSlice t (.int kl l) (.int kc c)) (.slice b 0 l (.exact c)) aZ:=by
 obtain⟨v,aH,rfl,ag⟩:=lW (w:=w) a0
 have ah:=(ke μ v).cells ag
 have DO:c<=1099511627776:=Nat.le_trans (Nat.le_mul_of_pos_right c (by omega)) vw
 have pe:i.bytes*c<=1099511627776:=by
  have:c*i.bytes<=c*(i.bytes+1):=Nat.mul_le_mul_left c (by omega)
  rw[Nat.mul_comm];omega
 have xH:∀n:Nat,n<=1099511627776->IntKind.wrap .i64 (n:Int)=(n:Int):=λn aJ=>rF n (by omega)
 have k1:=xH l (by omega)
 have xI:=xH c DO
 have s9:¬((c:Int)<0||(i.bytes:Int)*(c:Int)>2^48||(l:Int)<0||(l:Int)>(c:Int))=true:=by
  have ab:((i.bytes:Int)*(c:Int))<=1099511627776:=by
   have h0:((i.bytes*c:Nat):Int)<=1099511627776:=by omega
   rw[Int.natCast_mul] at h0;exact h0
  have ae:(2:Int)^48=281474976710656:=by rfl
  generalize (i.bytes:Int)*(c:Int)=q at ab⊢
  rw[ae]
  simp only[Bool.or_eq_true,decide_eq_true_eq]
  omega
 have key:∀zero:Array Value,b9 μ (if c*i.size=0 then[] else e8 c (n0 v).cells) ((Array.range (c*i.size)).map (λj=>zero[j %zero.size]!)).toList->
   (Instr.makeSlice t (.int kl l) (.int kc c)).run P w=(do let a<-_root_.Go.newRow e ((Array.range (c*i.size)).map (λj=>zero[j %zero.size]!));pure (.slice (some a) l c):Sem Value).run P w->
   fs P μ H w (Instr.makeSlice t (.int kl l) (.int kc c)) (.slice b 0 l (.exact c)) aZ:=by
  intro zero qo eL
  obtain⟨aQ,rfl,bw,cl,cC⟩:=AO (P:=P) aj qo ai
  refine⟨_,_,.slice (some ⟨w.heap.size,0,none⟩) l c,?_,⟨_,bw,by simp[DG]⟩,cl,cC⟩
  rw[eL]
  simp only[Sem.run_bind,Sem.run_pure]
  have:(⟨((Array.range (c*i.size)).map (λj=>zero[j %zero.size]!)).toList⟩:Array Value)=((Array.range (c*i.size)).map (λj=>zero[j %zero.size]!)):=rfl
  rw[this] at aQ
  rw[aQ];rfl
 have bE:(_root_.Go.sizeOf e).run P w=.ok i.size w:=by simp[_root_.Go.sizeOf,run_typeInfo af]
 by_cases h0:c*i.size=0
 · refine key #[] (by rw[if_pos h0,h0];simp[b9]) ?_
   simp only[Instr.makeSlice,Sem.run_bind,bO hu,Result.andThen_ok,asInt,asIntOf,Sem.run_pure,run_typeInfo af,k1,xI]
   rw[if_neg s9]
   simp[bE,h0]
 · refine key v.cells (by rw[if_neg h0];exact xG ah n_ c) ?_
   simp only[Instr.makeSlice,Sem.run_bind,bO hu,Result.andThen_ok,asInt,asIntOf,Sem.run_pure,run_typeInfo af,k1,xI]
   rw[if_neg s9]
   simp[bE,h0,aH]
theorem QP{x:J}{v:Value}(aH:bd μ x v)(ad:(∃b o,x=.ptr b o)\/(∃b o n c,x=.slice b o n c)\/(∃f a b,x=.fn f a b)\/∃t y,x=.iface t y):
  ∀(o:Oper) (op:Operand) (cn:Operand->Value),cn op=v->o.op=.nilCheck op->(execOp cn o).run P w=.ok (.value v) w:=by
 intro o op cn QQ a8
 simp only[execOp,a8,QQ]
 rcases ad with⟨b,o',rfl⟩|⟨b,o',n,c,rfl⟩|⟨f,a,b,rfl⟩|⟨t,y,rfl⟩
 · obtain⟨i,_,rfl⟩:=aH;rfl
 · obtain⟨i,_,ah⟩:=aH
   cases c with
   |exact c=>cases ah;rfl
   |aM gG=>obtain⟨c,rfl,_⟩:=ah;rfl
   |dead=>obtain⟨_,a,c,rfl⟩:=ah;rfl
 · obtain⟨ct,cs,rfl,_,_⟩:=aH;rfl
 · obtain⟨QR,rfl,_⟩:=aH;rfl
theorem QS(op:BinOp)(t:TypeId)(k:IntKind)(x y:Int)(gn:op≠ .shl/\op≠ .shr):binOp op t (.int k x) (.int k y)=match op with
  |.add|.sub|.mul=>Op.intArith op k x y
  |.quo|.rem=>Op.intDiv op k x y
  |.and|.or|.xor|.andNot=>Op.intBits op k x y
  |_=>Op.intCmp op x y:=by
 cases op<;>first
  |(exact absurd rfl gn.1)
  |(exact absurd rfl gn.2)
  |simp[binOp]
theorem QT{op:BinOp}{k:IntKind}{x y:Int}{v:J}(h:arith op k x y=some v)(gn:op≠ .shl/\op≠ .shr)(t:TypeId):
  ∃u,(binOp op t (.int k x) (.int k y)).run P w=.ok u w/\bd μ v u:=by
 rw[QS op t k x y gn]
 cases op<;>simp only[arith] at h
 case shl=>cases h
 case shr=>cases h
 case quo=>
  split at h
  · cases h
  · rename_i a6;cases h;exact⟨_,by simp only[Op.intDiv,if_neg a6];rfl,rfl⟩
 case rem=>
  split at h
  · cases h
  · rename_i a6;cases h;exact⟨_,by simp only[Op.intDiv,if_neg a6];rfl,rfl⟩
 all_goals (cases h;exact⟨_,rfl,rfl⟩)
theorem IN{op:BinOp}{k ew:IntKind}{x y:Int}{v:J}(h:ml op k x y=some v)(t:TypeId):
  ∃u,(binOp op t (.int k x) (.int ew y)).run P w=.ok u w/\bd μ v u:=by
 unfold ml at h
 split at h
 · cases h
 · rename_i a6
   cases op<;>simp only[] at h<;>first
    |(cases h;done)
    |(cases h;exact⟨_,by simp[binOp,Op.shift,a6],rfl⟩)
theorem IP(b:ByteArray):∀(n i:Nat) (r:List UInt8),b.size-i=n->ByteArray.toList.loop b i r=r.reverse++b.data.toList.drop i
 |0,i,r,h=>by
  rw[ByteArray.toList.loop]
  have hs:b.data.toList.length=b.size:=Array.length_toList
  rw[if_neg (by omega),List.drop_eq_nil_of_le (by omega)];simp
 |n+1,i,r,h=>by
  rw[ByteArray.toList.loop]
  have hs:b.data.toList.length=b.size:=Array.length_toList
  rw[if_pos (by omega),IP b n (i+1) _ (by omega)]
  rw[List.drop_eq_getElem_cons (i:=i) (by omega)]
  have:b.get! i=b.data.toList[i]'(by omega):=by
   have ae:i<b.data.size:=by have:=Array.length_toList (xs:=b.data);omega
   show b.data[i]! =_
   rw[getElem!_pos b.data i ae];simp
  simp[this]
theorem rG(s:ByteArray):s.toList=s.data.toList:=by
 unfold ByteArray.toList
 rw[IP s _ 0 [] rfl];simp
theorem nk:∀a b:List UInt8,cw a b=(a==b)
 |[],[]=>rfl
 |[],_::_=>rfl
 |_::_,[]=>rfl
 |a::x,b::y=>by
  have bp:=nk x y
  simp only[cw,List.cons_beq_cons]
  cases e:Nat.beq a.toNat b.toNat with
  |true=>
   have:a=b:=UInt8.toNat_inj.1 (Nat.eq_of_beq_eq_true e)
   subst this;simp[bp]
  |false=>
   have:(a==b)=false:=by
    rw[beq_eq_false_iff_ne];intro h;subst h;simp at e
   simp[this]
theorem DP:∀a b:List UInt8,fq a b=Op.bytesLess a b
 |[],[]=>rfl
 |[],_::_=>rfl
 |_::_,[]=>rfl
 |a::x,b::y=>by
  have bp:=DP x y
  simp only[fq,Op.bytesLess]
  cases e:Nat.beq a.toNat b.toNat with
  |true=>
   have:a=b:=UInt8.toNat_inj.1 (Nat.eq_of_beq_eq_true e)
   subst this;simp[bp]
  |false=>
   have ab:(a==b)=false:=by
    rw[beq_eq_false_iff_ne];intro h;subst h;simp at e
   have ae:decide (a<b)=Nat.blt a.toNat b.toNat:=by
    rw[Bool.eq_iff_iff];simp[UInt8.lt_iff_toNat_lt]
   simp[ab,ae]
theorem IQ:∀a b:List UInt8,(Op.bytesLess a b||(a==b))=!Op.bytesLess b a
 |[],[]=>rfl
 |[],_::_=>rfl
 |_::_,[]=>rfl
 |a::x,b::y=>by
  have bp:=IQ x y
  simp only[Op.bytesLess,List.cons_beq_cons]
  by_cases h:a=b
  · subst h
    have:¬(a<a):=UInt8.lt_irrefl a
    simpa[this] using bp
  · have dK:(a==b)=false:=beq_eq_false_iff_ne.2 h
    have QU:(b==a)=false:=beq_eq_false_iff_ne.2 (λe=>h e.symm)
    simp only[dK,QU,Bool.false_and,Bool.or_false]
    rw[Bool.eq_iff_iff]
    simp only[decide_eq_true_eq,Bool.not_eq_true',decide_eq_false_iff_not,UInt8.lt_iff_toNat_lt]
    have:a.toNat≠b.toNat:=λe=>h (UInt8.toNat_inj.1 e)
    omega
theorem QV{op:BinOp}{a b:ByteArray}{v:J}(h:o5 op a.data.toList b.data.toList=some v)(t:TypeId):∃u,(binOp op t (.string a) (.string b)).run P w=.ok u w/\bd μ v u:=by
 have a5:=rG a
 have ag:=rG b
 have ab:=nk a.data.toList b.data.toList
 have ae:=DP a.data.toList b.data.toList
 have av:=DP b.data.toList a.data.toList
 have a2:=IQ a.data.toList b.data.toList
 have xJ:a.data.toList.length=a.size:=Array.length_toList
 have QW:b.data.toList.length=b.size:=Array.length_toList
 cases op<;>simp only[o5] at h
 case add=>
  split at h
  · cases h
  · rename_i aw
    cases h
    refine⟨.string (a++b),?_,⟨a++b,rfl,by simp[ByteArray.data_append]⟩⟩
    rw[xJ,QW] at aw
    simp only[binOp,Op.stringOp]
    rw[if_neg aw];rfl
 case eql=>cases h;exact⟨_,rfl,congrArg Value.bool (by rw[a5,ag,ab])⟩
 case neq=>cases h;exact⟨_,rfl,congrArg Value.bool (by rw[a5,ag,ab])⟩
 case lss=>cases h;exact⟨_,rfl,congrArg Value.bool (by rw[a5,ag,ae])⟩
 case leq=>cases h;exact⟨_,rfl,congrArg Value.bool (by rw[a5,ag,av];exact a2)⟩
 case gtr=>cases h;exact⟨_,rfl,congrArg Value.bool (by rw[a5,ag,av,a2,Bool.not_not])⟩
 case geq=>cases h;exact⟨_,rfl,congrArg Value.bool (by rw[a5,ag,ae])⟩
 all_goals cases h
def nm(μ:bl):Option J->Option Value->Prop
 |none,none=>True
 |some a,some v=>bd μ a v
 |_,_=>False
theorem nm.map(g:Operand->J)(cn:Operand->Value)(ao:∀x,bd μ (g x) (cn x))(o:Option Operand):nm μ (o.map g) (o.map cn):=by
 cases o with
 |none=>trivial
 |some x=>exact ao x
theorem IS{a:J}{n:Nat}(h:fF a=some n){v:Value}(aH:bd μ a v):∃k,v=.int k (n:Int):=by
 unfold fF at h
 split at h
 · rename_i k m;cases h;exact⟨k,aH⟩
 · cases h
theorem DQ{n y:Nat}{k:IntKind}(h:n<=y)(c:BoundsCode):(Instr.sliceBound (.int k (n:Int)) y c).run P w=.ok n w:=by
 simp only[Instr.sliceBound,asIntOf,Sem.run_bind,Sem.run_pure,Result.andThen_ok]
 rw[if_pos ⟨by omega,by omega⟩]
 simp
theorem IT{d n:Nat}{o:Option J}{o':Option Value}(h:jx d o=some n)(ai:nm μ o o'):(o'=none/\n=d/\o=none)\/∃k a,o=some a/\o'=some (.int k (n:Int)):=by
 cases o with
 |none=>cases o' with
  |none=>simp[jx] at h;exact .inl ⟨rfl,h.symm,rfl⟩
  |some _=>exact ai.elim
 |some a=>cases o' with
  |none=>exact ai.elim
  |some v=>obtain⟨k,e⟩:=IS (μ:=μ) h ai;exact .inr ⟨k,a,rfl,by rw[e]⟩
theorem oc{len cap l h m:Nat}{aW af mx:Option J}{qp eQ mx':Option Value}(hR:nm μ aW qp)(kf:nm μ af eQ)(iG:nm μ mx mx')
  (ag:bounds len cap aW af mx=some (l,h,m))(b:Bool):(Instr.sliceBounds b len cap qp eQ mx').run P w=.ok (l,h,m) w/\l<=h/\h<=m/\m<=cap/\(mx=none->m=cap):=by
 unfold bounds at ag
 cases em:jx cap mx with
 |none=>rw[em] at ag;cases ag
 |some cE=>
  rw[em] at ag
  simp only at ag
  cases hm:Nat.ble cE cap with
  |false=>rw[hm] at ag;cases ag
  |true=>
   rw[hm] at ag
   simp only at ag
   have DR:=Nat.le_of_ble_eq_true hm
   split at ag
   · cases ag
   · rename_i aj AP
     cases DS:Nat.ble aj cE with
     |false=>rw[DS] at ag;cases ag
     |true=>
      rw[DS] at ag
      simp only at ag
      have IU:=Nat.le_of_ble_eq_true DS
      cases el:jx 0 aW with
      |none=>rw[el] at ag;cases ag
      |some bD=>
       rw[el] at ag
       simp only at ag
       cases aw:Nat.ble bD aj with
       |false=>rw[aw] at ag;cases ag
       |true=>
        rw[aw] at ag
        simp only[Option.some.injEq,Prod.mk.injEq] at ag
        obtain⟨rfl,rfl,rfl⟩:=ag
        have AQ:=Nat.le_of_ble_eq_true aw
        have QX:(eQ=none/\mx'=none/\aj=len)\/∃k,eQ=some (.int k (aj:Int)):=by
         cases af with
         |none=>cases eQ with
          |some _=>exact kf.elim
          |none=>cases mx with
           |some _=>simp at AP
           |none=>cases mx' with
            |some _=>exact iG.elim
            |none=>simp at AP;exact .inl ⟨rfl,rfl,AP.symm⟩
         |some a=>cases eQ with
          |none=>exact kf.elim
          |some v=>
           have gg:fF a=some aj:=by cases mx<;>simpa using AP
           obtain⟨k,e⟩:=IS (μ:=μ) gg kf
           exact .inr ⟨k,by rw[e]⟩
        refine⟨?_,AQ,IU,DR,λe=>by rw[e] at em;simp[jx] at em;exact em.symm⟩
        rcases IT em iG with⟨aE,aC,_⟩|⟨bz,_,_,aE⟩<;>rcases QX with⟨bu,cX,gJ⟩|⟨bA,bu⟩<;>rcases IT el hR with⟨eK,eE,_⟩|⟨c8,_,_,eK⟩<;>
         first
         |(exfalso;simp[aE] at cX;done)
         |(subst_vars;simp[Instr.sliceBounds,DQ DR,DQ IU,DQ AQ])
end
end ay
namespace ay
open Go
section
variable {P:Program} {μ:bl} {H:aa} {w:World}
theorem QY(t:ByteArray)(l h:Nat)(aj:h<=t.size):(t.extract l h).data.toList=List.take (h-l) (iO l t.data.toList):=by
 rw[ni]
 simp only[ByteArray.data_extract,Array.toList_extract,List.extract_eq_take_drop]
theorem xK{m n:Nat}(h:m<=n):Nat.ble m n=true:=Nat.ble_eq_true_of_le h
theorem DT{len k c:Nat}{aW af mx:Option J}{l h m:Nat}(ag:bounds len k aW af mx=some (l,h,m))(au:k<=c):bounds len c aW af mx=some (l,h,if mx.isNone then c else m):=by
 have fin:∀(cE hB:Nat) (E:Option Nat),cE<=hB->
   (match E with
   |none=>none
   |some aj=>match Nat.ble aj cE with
    |false=>none
    |true=>match jx 0 aW with
     |none=>none
     |some l=>match Nat.ble l aj with
      |false=>none
      |true=>some (l,aj,cE))=some (l,h,m)->
   (match E with
   |none=>none
   |some aj=>match Nat.ble aj hB with
    |false=>none
    |true=>match jx 0 aW with
     |none=>none
     |some l=>match Nat.ble l aj with
      |false=>none
      |true=>some (l,aj,hB))=some (l,h,hB):=by
  intro cE hB E hm fY
  cases E with
  |none=>cases fY
  |some aj=>
   simp only at fY⊢
   cases ab:Nat.ble aj cE with
   |false=>rw[ab] at fY;cases fY
   |true=>
    rw[ab] at fY
    rw[xK (Nat.le_trans (Nat.le_of_ble_eq_true ab) hm)]
    simp only at fY⊢
    cases aw:jx 0 aW with
    |none=>rw[aw] at fY;cases fY
    |some bD=>
     rw[aw] at fY
     simp only at fY⊢
     cases aK:Nat.ble bD aj with
     |false=>rw[aK] at fY;cases fY
     |true=>rw[aK] at fY;simp only[Option.some.injEq,Prod.mk.injEq] at fY⊢;exact⟨fY.1,fY.2.1,trivial⟩
 unfold bounds at ag⊢
 cases mx with
 |none=>
  have aE:jx k none=some k:=rfl
  have aC:jx c none=some c:=rfl
  rw[aE] at ag;rw[aC]
  simp only at ag⊢
  rw[xK (Nat.le_refl k)] at ag;rw[xK (Nat.le_refl c)]
  simp only[Option.isNone_none,if_true] at ag⊢
  cases af with
  |none=>exact fin k c (some len) au ag
  |some a=>exact fin k c (fF a) au ag
 |some s_=>
  have aE:jx k (some s_)=fF s_:=rfl
  have aC:jx c (some s_)=fF s_:=rfl
  rw[aE] at ag;rw[aC]
  cases em:fF s_ with
  |none=>rw[em] at ag;cases ag
  |some cE=>
   rw[em] at ag
   simp only at ag⊢
   cases ab:Nat.ble cE k with
   |false=>rw[ab] at ag;cases ag
   |true=>
    rw[ab] at ag
    rw[xK (Nat.le_trans (Nat.le_of_ble_eq_true ab) au)]
    simp only[Option.isNone_some,Bool.false_eq_true,if_false] at ag⊢
    have QZ:cE=m:=by
     cases af<;>simp only at ag
     · cases ag
     · split at ag<;>try cases ag
       split at ag<;>try cases ag
       split at ag<;>try cases ag
       split at ag<;>first|cases ag;rfl|cases ag
    subst QZ
    cases af<;>exact ag
theorem Q0(aj:bm μ H w){t:TypeId}{x:J}{br:Value}(ad:bd μ x br){aW af mx:Option J}{qp eQ mx':Option Value}(hR:nm μ aW qp)(kf:nm μ af eQ)(iG:nm μ mx mx'){v:J}
  (h:dR P H t x aW af mx=some v):fs P μ H w (Instr.sliceAt t br qp eQ mx') v H:=by
 unfold dR at h
 split at h
 ·
  rename_i s hu
  obtain⟨bs,rfl,rfl⟩:=ad
  cases mx with
  |some _=>cases h
  |none=>
   simp only at h
   cases mx' with
   |some _=>exact iG.elim
   |none=>
    split at h
    · rename_i l ag m ie
      cases h
      have bE:bs.data.toList.length=bs.size:=Array.length_toList
      rw[bE] at ie
      obtain⟨ba,bt,ft,hC,_⟩:=oc (P:=P) (w:=w) hR kf (μ:=μ) (mx:=none) (mx':=none) trivial ie false
      refine .same aj (v':=.string (bs.extract l ag)) ?_ ⟨_,rfl,QY _ _ _ (by omega)⟩
      simp[Instr.sliceAt,Instr.slice,bO hu,ba]
    · cases h
 ·
  rename_i e hu
  cases ad
  split at h
  · rename_i sz r hs ie
    cases h
    obtain⟨l,ag,m⟩:=r
    obtain⟨ba,bt,ft,hC,_⟩:=oc (P:=P) (w:=w) hR kf iG ie true
    have:m=0/\l=0/\ag=0:=by omega
    obtain⟨rfl,rfl,rfl⟩:=this
    exact .same aj (v':=.slice none 0 0) (by simp[Instr.sliceAt,Instr.slice,bO hu,ba,run_sizeOf hs]) rfl
  · cases h
 ·
  rename_i e b off len cap hu
  obtain⟨i,nn,ah⟩:=ad
  cases ah
  split at h
  · rename_i sz l ag m hs ie
    cases h
    obtain⟨ba,bt,ft,hC,_⟩:=oc (P:=P) (w:=w) hR kf iG ie true
    refine .same aj (v':=.slice (some ⟨i.bg,i.base+(if m=l then off else off+l*sz),none⟩) (ag-l) (m-l)) ?_ ⟨i,nn,rfl⟩
    by_cases e:m=l
    · simp[Instr.sliceAt,Instr.slice,bO hu,ba,run_sizeOf hs,e]
    · simp[Instr.sliceAt,Instr.slice,bO hu,ba,run_sizeOf hs,e,add_plain,Nat.add_assoc]
  · cases h
 ·
  rename_i e b off len gG hu
  obtain⟨i,nn,c,rfl,rD,bE⟩:=ad
  split at h
  · rename_i sz hs
    split at h
    · rename_i Q1
      subst Q1
      cases mx with
      |none=>
       cases mx' with
       |some _=>exact iG.elim
       |none=>
        simp only at h
        split at h
        · rename_i l ag m ie
          have xL:bounds len c aW af none=some (l,ag,c):=DT ie rD
          obtain⟨ba,bt,ft,hC,_⟩:=oc (P:=P) (w:=w) hR kf (μ:=μ) (mx:=none) (mx':=none) trivial xL true
          obtain⟨_,aT,bP,eR,_⟩:=oc (P:=P) (w:=w) hR kf (μ:=μ) (mx:=none) (mx':=none) trivial ie true
          have eL:(Instr.sliceAt t (.slice (some ⟨i.bg,i.base+off,none⟩) len c) qp eQ none).run P w=.ok (.slice (some (if c=l then⟨i.bg,i.base+off,none⟩ else⟨i.bg,i.base+off+l*sz,none⟩)) (ag-l) (c-l)) w:=by
           by_cases e:c=l
           · subst e;simp[Instr.sliceAt,Instr.slice,bO hu,ba,run_sizeOf hs]
           · simp[Instr.sliceAt,Instr.slice,bO hu,ba,run_sizeOf hs,e,add_plain]
          split at h
          · rename_i IV
            subst IV
            cases h
            refine .same aj eL ⟨i,nn,c,?_,by omega,bE⟩
            by_cases e:c=0
            · simp[e]
            · simp[e]
          · rename_i IV
            split at h
            · rename_i cx
              cases h
              simp only[Nat.blt_eq] at cx
              refine .same aj eL ⟨i,nn,c-l,?_,by omega,?_⟩
              · rw[if_neg (by omega)];simp[Nat.add_assoc]
              · have:c*sz=l*sz+(c-l)*sz:=by rw[<-Nat.add_mul];congr 1;omega
                omega
            · rename_i cx
              cases h
              have DU:¬l<len:=by simpa[Nat.blt_eq] using cx
              have h0:ag-l=0:=by omega
              rw[h0] at eL
              exact .same aj eL ⟨i,nn,rfl,_,c-l,rfl⟩
        · cases h
      |some s_=>
       simp only at h
       split at h
       · rename_i l ag m ie
         cases h
         obtain⟨_,aT,bP,eR,_⟩:=oc (P:=P) (w:=w) hR kf iG ie true
         have xL:bounds len c aW af (some s_)=some (l,ag,m):=DT ie rD
         obtain⟨ba,bt,ft,hC,_⟩:=oc (P:=P) (w:=w) hR kf iG xL true
         refine .same aj (v':=.slice (some ⟨i.bg,i.base+(if m=l then off else off+l*sz),none⟩) (ag-l) (m-l)) ?_ ⟨i,nn,rfl⟩
         by_cases e:m=l
         · simp[Instr.sliceAt,Instr.slice,bO hu,ba,run_sizeOf hs,e]
         · simp[Instr.sliceAt,Instr.slice,bO hu,ba,run_sizeOf hs,e,add_plain,Nat.add_assoc]
       · cases h
    · cases h
  · cases h
 ·
  rename_i e b off len hu
  obtain⟨i,nn,rfl,a,c,rfl⟩:=ad
  split at h
  · rename_i sz r hs ie
    cases h
    obtain⟨l,ag,m⟩:=r
    obtain⟨_,aT,bP,eR,ll⟩:=oc (P:=P) (w:=w) hR kf iG ie true
    have:m=0/\l=0/\ag=0:=by omega
    obtain⟨rfl,rfl,rfl⟩:=this
    have xL:bounds 0 c aW af mx=some (0,0,(if mx.isNone then c else 0)):=DT ie (Nat.zero_le _)
    obtain⟨ba,bt,ft,hC,_⟩:=oc (P:=P) (w:=w) hR kf iG xL true
    refine .same aj (v':=.slice (some a) 0 ((if mx.isNone then c else 0)-0)) ?_ ⟨i,nn,rfl,a,_,rfl⟩
    have a5:a.add (0*sz)=a:=by simp[Addr.add]
    simp[Instr.sliceAt,Instr.slice,bO hu,ba,run_sizeOf hs,Addr.add]
  · cases h
 ·
  rename_i n e b off hu
  obtain⟨i,nn,rfl⟩:=ad
  split at h
  · rename_i sz l ag m hs ie
    cases h
    obtain⟨ba,bt,ft,hC,_⟩:=oc (P:=P) (w:=w) hR kf iG ie false
    refine .same aj (v':=.slice (some ⟨i.bg,i.base+(if m=l then off else off+l*sz),none⟩) (ag-l) (m-l)) ?_ ⟨i,nn,rfl⟩
    by_cases e:m=l
    · simp[Instr.sliceAt,Instr.sureAddr,bO hu,ba,run_sizeOf hs,e]
    · simp[Instr.sliceAt,Instr.sureAddr,bO hu,ba,run_sizeOf hs,e,add_plain,Nat.add_assoc]
  · cases h
 ·
  rename_i arr b off hu
  obtain⟨i,nn,rfl⟩:=ad
  split at h
  · rename_i n e pf
    split at h
    · rename_i sz l ag m hs ie
      cases h
      obtain⟨ba,bt,ft,hC,_⟩:=oc (P:=P) (w:=w) hR kf iG ie false
      refine .same aj (v':=.slice (some ⟨i.bg,i.base+(if m=l then off else off+l*sz),none⟩) (ag-l) (m-l)) ?_ ⟨i,nn,rfl⟩
      by_cases e:m=l
      · simp[Instr.sliceAt,Instr.slice,asAddr,bO hu,bO pf,ba,run_sizeOf hs,e]
      · simp[Instr.sliceAt,Instr.slice,asAddr,bO hu,bO pf,ba,run_sizeOf hs,e,add_plain,Nat.add_assoc]
    · cases h
  · cases h
 · cases h
theorem rH{t:TypeId}{off:Nat}{cs:List J}{l:List Value}(aw:b9 μ cs l){v:J}(h:lg P t cs off=some v):∃u,(part t ⟨l⟩ off).run P w=.ok u w/\bd μ v u:=by
 unfold lg at h
 split at h
 · rename_i n a5 aJ
   split at h
   · rename_i r ai
     cases h
     rw[ni] at ai
     obtain⟨ab,rfl⟩:=s7 _ _ _ ai
     refine⟨.agg ⟨(l.drop off).take n⟩,?_,⟨_,rfl,?_⟩⟩
     · simp[part,vu a5,run_sizeOf aJ,List.extract_eq_take_drop]
     · refine b9.xz (by have:=aw.length;simp[this]) λj a aI=>?_
       rw[List.getElem?_take] at aI⊢
       split at aI
       · rename_i DV
         rw[if_pos DV]
         rw[List.getElem?_drop] at aI⊢
         exact aw.get aI
       · cases aI
   · cases h
 · rename_i _ a5
   rw[qn] at h
   obtain⟨u,hu,ai⟩:=aw.get h
   refine⟨u,?_,ai⟩
   simp[part,vu a5,hu]
 · cases h
theorem Q2(aj:bm μ H w){t:TypeId}{ct:Array Field}{fd:Field}{f:Nat}(hu:P.underlying t=some (.struct ct))(hf:ct[f]? =some fd){cs:List J}{br:Value}(ad:bd μ (.agg cs) br){v:J}
  (h:lg P fd.type cs fd.offset=some v):fs P μ H w (Instr.field t br f) v H:=by
 obtain⟨l,rfl,aw⟩:=ad
 obtain⟨u,ab,ae⟩:=rH (P:=P) (w:=w) aw h
 exact .same aj (v':=u) (by simp[Instr.field,bO hu,hf,asAgg,ab]) ae
theorem Q3(aj:bm μ H w){s:TypeId}{ct:Array Field}{fd:Field}{f n b off:Nat}(hu:P.underlying s=some (.struct ct))(hf:ct[f]? =some fd)(aJ:dm P fd.type=some n)(xM:n≠0){br:Value}
  (ad:bd μ (.ptr b off) br):fs P μ H w (Instr.fieldAt s br f) (.ptr b (off+fd.offset)) H:=by
 obtain⟨i,af,rfl⟩:=ad
 refine .same aj (v':=.pointer (some ⟨i.bg,i.base+(off+fd.offset),none⟩)) ?_ ⟨i,af,rfl⟩
 simp[Instr.fieldAt,bO hu,hf,Instr.sureAddr,fieldPlace,run_sizeOf aJ,xM,add_plain,Nat.add_assoc]
theorem Q4(aj:bm μ H w){t e:TypeId}{b off n k sz:Nat}{c:cj}{cd:IntKind}(hu:P.underlying t=some (.slice e))(hs:dm P e=some sz){br:Value}(ad:bd μ (.slice b off n c) br)(au:k<n):
  fs P μ H w (Instr.indexAt t br (.int cd (k:Int))) (.ptr b (off+k*sz)) H:=by
 obtain⟨i,af,ah⟩:=ad
 have od:∃cap,br=.slice (some ⟨i.bg,i.base+off,none⟩) n cap:=by
  cases c with
  |exact c=>exact⟨c,ah⟩
  |aM gG=>obtain⟨c,h,_⟩:=ah;exact⟨c,h⟩
  |dead=>obtain⟨h0,_⟩:=ah;omega
 obtain⟨cap,rfl⟩:=od
 refine .same aj (v':=.pointer (some ⟨i.bg,i.base+(off+k*sz),none⟩)) ?_ ⟨i,af,rfl⟩
 simp only[Instr.indexAt,asIntOf,Sem.run_bind,Sem.run_pure,Result.andThen_ok,bO hu]
 rw[if_pos ⟨by omega,by omega⟩]
 simp[run_sizeOf hs,add_plain,Nat.add_assoc]
theorem Q5(aj:bm μ H w){t e:TypeId}{b off n k sz:Nat}{cd:IntKind}(hu:P.underlying t=some (.array n e))(hs:dm P e=some sz){br:Value}(ad:bd μ (.ptr b off) br)(au:k<n):
  fs P μ H w (Instr.indexAt t br (.int cd (k:Int))) (.ptr b (off+k*sz)) H:=by
 obtain⟨i,af,rfl⟩:=ad
 refine .same aj (v':=.pointer (some ⟨i.bg,i.base+(off+k*sz),none⟩)) ?_ ⟨i,af,rfl⟩
 simp only[Instr.indexAt,asIntOf,Sem.run_bind,Sem.run_pure,Result.andThen_ok,bO hu,Instr.sureAddr]
 rw[if_pos ⟨by omega,by omega⟩]
 simp[run_sizeOf hs,add_plain,Nat.add_assoc]
theorem Q6(aj:bm μ H w){t e:TypeId}{n k sz:Nat}{cd:IntKind}{cs:List J}(hu:P.underlying t=some (.array n e))(hs:dm P e=some sz){br:Value}(ad:bd μ (.agg cs) br)(au:k<n){v:J}
  (h:lg P e cs (k*sz)=some v):fs P μ H w (Instr.index t br (.int cd (k:Int))) v H:=by
 obtain⟨l,rfl,aw⟩:=ad
 obtain⟨u,ab,ae⟩:=rH (P:=P) (w:=w) aw h
 refine .same aj (v':=u) ?_ ae
 simp only[Instr.index,asIntOf,Sem.run_bind,Sem.run_pure,Result.andThen_ok,bO hu]
 rw[if_pos ⟨by omega,by omega⟩]
 simp[run_sizeOf hs,ab]
theorem Q7(aj:bm μ H w){t:TypeId}{k:Nat}{cd:IntKind}{s:List UInt8}(hu:P.underlying t=some .string){br:Value}(ad:bd μ (.str s) br){c:UInt8}(h:nth k s=some c):
  fs P μ H w (Instr.index t br (.int cd (k:Int))) (.int .u8 (Int.ofNat c.toNat)) H:=by
 obtain⟨bs,rfl,rfl⟩:=ad
 rw[qn] at h
 refine .same aj (v':=.int .u8 (c.toNat:Int)) ?_ rfl
 have au:k<bs.data.size:=by
  rcases Nat.lt_or_ge k bs.data.size with an|an
  · exact an
  · rw[List.getElem?_eq_none (by simpa using an)] at h;cases h
 have ao:bs[k]? =some c:=by
  rw[Array.getElem?_toList] at h
  rw[<-h]
  show(if h:k<bs.size then some bs[k] else none)=_
  have fJ:k<bs.size:=au
  rw[dif_pos fJ,Array.getElem?_eq_getElem au];rfl
 simp only[Instr.index,asIntOf,Sem.run_bind,Sem.run_pure,Result.andThen_ok,bO hu]
 rw[if_pos (by omega)]
 simp[ao]
end
end ay
namespace ay
open Go
section
variable {P:Program} {μ:bl} {H:aa} {w:World}
theorem AR(μ:bl):∀l:List UInt8,b9 μ (cy l) (l.map λb=>.int .u8 b.toNat)
 |[]=>rfl
 |b::l=>⟨_,_,rfl,rfl,AR μ l⟩
theorem Q8(t:ByteArray):(t.extract 0 t.size)=t:=by
 obtain⟨d⟩:=t
 simp[ByteArray.ext_iff,ByteArray.data_extract,ByteArray.size]
theorem AS(aj:bm μ H w){size n:Nat}{x:J}{br:Value}(ad:bd μ x br){cs:List J}(h:hP H size x=some (n,cs)):
  (Builtin.lenOf br).run P w=.ok n w/\(∃us:List Value,(Builtin.firstCells size n br).run P w=.ok ⟨us⟩ w/\b9 μ cs us):=by
 cases x<;>simp only[hP] at h<;>try cases h
 · split at h<;>try cases h
   obtain⟨bs,rfl,rfl⟩:=ad
   refine⟨by rw[show bs.data.toList.length=bs.size from Array.length_toList];rfl,_,?_,AR μ _⟩
   have bE:bs.data.toList.length=bs.size:=Array.length_toList
   simp only[Builtin.firstCells,Sem.run_pure,bE,Q8]
   congr 1
   apply Array.ext'
   simp
 · cases ad
   exact⟨rfl,[],rfl,rfl⟩
 · rename_i b off len cap
   obtain⟨i,af,ah⟩:=ad
   cases cap with
   |dead=>
    obtain⟨rfl,a,c,rfl⟩:=ah
    simp at h
    obtain⟨rfl,rfl⟩:=h
    exact⟨rfl,[],by simp[Builtin.firstCells,_root_.Go.loadCells,loadCellsFrom],rfl⟩
   |exact c=>
    cases ah
    simp only at h
    split at h
    · rename_i bS aw
      cases h
      obtain⟨us,ab,ae⟩:=rz (P:=P) aj af aw
      exact⟨rfl,us,by simp only[Builtin.firstCells];exact ab,ae⟩
    · cases h
   |aM gG=>
    obtain⟨c,rfl,_⟩:=ah
    simp only at h
    split at h
    · rename_i bS aw
      cases h
      obtain⟨us,ab,ae⟩:=rz (P:=P) aj af aw
      exact⟨rfl,us,by simp only[Builtin.firstCells];exact ab,ae⟩
    · cases h
theorem Q9{z:Value}(n:Nat){nj:List J}(a0:b9 μ nj z.cells.toList):b9 μ (e8 n nj) (Builtin.zeroCells z.cells n).toList:=by
 have:=xG a0 rfl n
 have aw:=a0.length
 have av:z.cells.toList.length=z.cells.size:=by simp
 rw[aw,av] at this
 exact this
theorem Q_(need old:Nat)(h:old<need):Builtin.nextslicecap need old<=4*need+2048:=by
 unfold Builtin.nextslicecap
 split
 · omega
 · split
   · omega
   · have ao:∀rounds c,c<=2*need+768->(∀k,k<=rounds->True)->Builtin.growBy need rounds c<=4*need+2048:=by
       intro rounds
       induction rounds with
       |zero=>intro c ah _;simp only[Builtin.growBy];omega
       |succ r bp=>
        intro c ah _
        simp only[Builtin.growBy]
        split
        · omega
        · rename_i cx
          exact bp _ (by omega) (λ_ _=>trivial)
     exact ao 4 old (by omega) (λ_ _=>trivial)
theorem bm.Ra{w':World}(h:bm μ H w){b:Nat}{o o':b3}{i:eX}(ag:H.get b=some o)(hA:o.nh=false)(af:μ b=some i)
  (hs:w'.heap.size=w.heap.size)(a8:∀r,r≠i.bg->w'.heap[r]? =w.heap[r]?)(xB:w'.os=w.os)(s6:w'.output=w.output)(DM:w'.tape=w.tape)(base sz:Nat)
  (ai:ng (gy μ H.n ⟨i.bg,base,sz⟩) o' ⟨i.bg,base,sz⟩ w')(hdr:w.drawn<=w'.drawn:=by first|exact Nat.le_refl _|assumption):
  bm (gy μ H.n ⟨i.bg,base,sz⟩) ((H.set b none).push o') w'/\b4 μ H w (gy μ H.n ⟨i.bg,base,sz⟩) ((H.set b none).push o') w':=by
 have hle:=h.n6 ⟨i.bg,base,sz⟩
 have Rb:b<H.n:=(h.lt b i af).1
 have vr:H.get b≠none:=by rw[ag];simp
 have fR:∀c,((H.set b none).push o').get c=if c=H.n then some o' else if c=b then none else H.get c:=λc=>by
  rw[aa.eD,aa.bH];rfl
 have qm:∀c,c<H.n->((H.set b none).push o').get c≠none->c≠b/\H.get c≠none:=λc ah aJ=>by
  rw[fR,if_neg (by omega)] at aJ
  by_cases e:c=b
  · rw[if_pos e] at aJ;exact absurd rfl aJ
  · rw[if_neg e] at aJ;exact⟨e,aJ⟩
 constructor
 · refine⟨λc n7 j ah aI=>?_,λc d j k ah aq aI au e=>?_,λc j aI=>?_,λc ah=>?_⟩
   · rw[fR] at ah
     by_cases e:c=H.n
     · rw[if_pos e] at ah;subst e;cases ah;rw[gz] at aI;cases aI;exact ai
     · rw[if_neg e] at ah;rw[ho _ _ e] at aI
       by_cases aC:c=b
       · rw[if_pos aC] at ah;cases ah
       · rw[if_neg aC] at ah
         exact(h.rel c n7 j ah aI).mono hle (a8 _ λcI=>aC (h.inj c b j i (by rw[ah];simp) ⟨o,ag,hA⟩ aI af cI))
   · have side:∀c j,c≠H.n->((H.set b none).push o').get c≠none->gy μ H.n ⟨i.bg,base,sz⟩ c=some j->j.bg≠i.bg:=λc j IW ah aI e=>by
       rw[ho _ _ IW] at aI
       obtain⟨aR,aT⟩:=qm c (h.lt c j aI).1 ah
       exact aR (h.inj c b j i aT ⟨o,ag,hA⟩ aI af e)
     by_cases aE:c=H.n
     · by_cases aC:d=H.n
       · rw[aE,aC]
       · subst aE;rw[gz] at aI;cases aI
         exact absurd e.symm (side d k aC (by obtain⟨x,ad,_⟩:=aq;rw[ad];simp) au)
     · by_cases aC:d=H.n
       · subst aC;rw[gz] at au;cases au
         exact absurd e (side c j aE ah aI)
       · rw[ho _ _ aE] at aI;rw[ho _ _ aC] at au
         exact h.inj c d j k (qm c (h.lt c j aI).1 ah).2 (by
          obtain⟨x,ad,pc⟩:=aq
          rw[fR,if_neg aC] at ad
          split at ad
          · cases ad
          · exact⟨x,ad,pc⟩) aI au e
   · by_cases e:c=H.n
     · subst e;rw[gz] at aI;cases aI
       have:=(h.lt b i af).2
       exact⟨by simp,by rw[hs];exact this⟩
     · rw[ho _ _ e] at aI
       have:=h.lt c j aI
       exact⟨by simp;omega,by rw[hs];exact this.2⟩
   · simp at ah
     rw[fR,if_neg (by omega),if_neg (by omega)];exact h.bound c (by omega)
 · refine⟨hle,by omega,by simp,λc ah aJ=>(qm c ah aJ).2,λc ah hm=>(by rw[fR,if_neg (by omega),if_neg];intro e;subst e;rw[af] at hm;cases hm),λr _ aJ=>a8 r λe=>aJ b i vr af e.symm,λc j ab ae=>?_,λc n7 j ah rv aI=>?_,xB,s6,DM,hdr⟩
   · by_cases e:c=H.n
     · subst e;rw[gz] at ae;cases ae
       exact⟨Nat.le_refl _,.inr ⟨b,o,i,ag,hA,af,rfl⟩⟩
     · rw[ho _ _ e,ab] at ae;cases ae
   · have dK:c≠b:=by intro e;subst e;rw[ag] at ah;cases ah;rw[hA] at rv;cases rv
     have IW:=(h.lt c j aI).1
     refine⟨by rw[fR,if_neg (by omega),if_neg dK];exact ah,a8 _ λe=>dK (h.inj c b j i (by rw[ah];simp) ⟨o,ag,hA⟩ aI af e)⟩
theorem bm.kill(h:bm μ H w){b:Nat}{o:b3}{i:eX}(ag:H.get b=some o)(hA:o.nh=false)(af:μ b=some i):
  bm μ (H.set b none) w/\b4 μ H w μ (H.set b none) w:=by
 have qm:∀c,(H.set b none).get c≠none->H.get c≠none:=λc aJ=>by
  rw[aa.bH] at aJ
  by_cases e:c=b
  · rw[if_pos e] at aJ;exact absurd rfl aJ
  · rw[if_neg e] at aJ;exact aJ
 constructor
 · refine⟨λc n7 j ah aI=>?_,λc d j k ah aq=>h.inj c d j k (qm c ah) (by
     obtain⟨x,ad,pc⟩:=aq
     rw[aa.bH] at ad
     split at ad
     · cases ad
     · exact⟨x,ad,pc⟩),h.lt,λc ah=>?_⟩
   · rw[aa.bH] at ah
     by_cases e:c=b
     · rw[if_pos e] at ah;cases ah
     · rw[if_neg e] at ah;exact h.rel c n7 j ah aI
   · rw[aa.bH]
     split
     · rfl
     · exact h.bound c ah
 · refine⟨fa.refl μ,Nat.le_refl _,Nat.le_refl _,λc _ ah=>qm c ah,λc _ hm=>(by rw[aa.bH,if_neg];intro e;subst e;rw[af] at hm;cases hm),λ_ _ _=>rfl,λc j ab ae=>(by rw[ab] at ae;cases ae),λc n7 j ah rv aI=>⟨?_,rfl⟩,rfl,rfl,rfl,Nat.le_refl _⟩
   have dK:c≠b:=by intro e;subst e;rw[ag] at ah;cases ah;rw[hA] at rv;cases rv
   rw[aa.bH,if_neg dK];exact ah
theorem bm.drew(h:bm μ H w):bm μ H w.drew:=h.of_heap rfl
theorem b4.drew:b4 μ H w μ H w.drew:=b4.of_heap rfl rfl rfl rfl
theorem Rc{need bytes:Nat}(h:lR need bytes=true):(4*need+2048)*bytes<=281474976710656/\need<=281474976710656:=by
 simp only[lR,Nat.ble_eq] at h
 have ab:(4*need+2048)*bytes<=(4*need+2048)*(bytes+1):=Nat.mul_le_mul_left _ (by omega)
 have ae:(4*need+2048)*1<=(4*need+2048)*(bytes+1):=Nat.mul_le_mul_left _ (by omega)
 refine⟨Nat.le_trans ab h,?_⟩
 have av:=Nat.le_trans ae h
 rw[Nat.mul_one] at av
 generalize 281474976710656=q at av⊢
 omega
theorem Rd{sT e:TypeId}{xT:Option TypeId}{i:TypeInfo}{z:Value}{argTypes:Array TypeId}{ty:TypeId}(h0:argTypes[0]? =some sT)(ab:argTypes[1]? =xT)(hu:P.underlying sT=some (.slice e))(ad:o6 P xT=true)(af:P.info? e=some i)
  (a0:∀w:World,(zeroValue e).run P w=.ok z w){base:Option Addr}{sLen sCap n:Nat}{br:Value}(aw:(Builtin.lenOf br).run P w=.ok n w){us old:List Value}(hold:(Builtin.firstCells i.size sLen (.slice base sLen sCap)).run P w.drew=.ok ⟨old⟩ w.drew)
  (ln:(Builtin.firstCells i.size n br).run P w.drew=.ok ⟨us⟩ w.drew)(cx:sCap<sLen+n)(ta:lR (sLen+n) i.bytes=true):
  ∃lX,sLen+n<=lX/\(Builtin.append_ argTypes ty #[.slice base sLen sCap,br]).run P w=
   .ok (.slice (some ⟨w.heap.size,0,none⟩) (sLen+n) lX) (w.drew.alloc (.cells (⟨old⟩++⟨us⟩++Builtin.zeroCells z.cells (lX-(sLen+n))) e)):=by
 obtain⟨cE,hB⟩:=Rc ta
 have Re:=Q_ (sLen+n) sCap cx
 have vw:¬(Builtin.nextslicecap (sLen+n) sCap*i.bytes>2^48):=by
  have ab:Builtin.nextslicecap (sLen+n) sCap*i.bytes<=(4*(sLen+n)+2048)*i.bytes:=Nat.mul_le_mul_right _ Re
  have ae:(2:Nat)^48=281474976710656:=by rfl
  rw[ae]
  exact Nat.not_lt.2 (Nat.le_trans ab cE)
 have Rf:IntKind.max .i64=9223372036854775807:=rfl
 have xN:¬(((sLen+n:Nat):Int)>IntKind.i64.max):=by rw[Rf];omega
 have IX:¬(sLen+n<=sCap):=by omega
 have bE:∀w:World,(_root_.Go.sizeOf e).run P w=.ok i.size w:=λw=>by simp[_root_.Go.sizeOf,run_typeInfo af]
 have AT:(Question.appendCap (sLen+n) sCap e).forced=false:=rfl
 have AU:∀w:World,(typeInfo e).run P w=.ok i w:=λw=>run_typeInfo af
 have AV:∀(c:Nat) (cs:Array Value),(_root_.Go.newRow e cs).run P w.drew=.ok ⟨w.heap.size,0,none⟩ (w.drew.alloc (.cells cs e)):=λc cs=>rfl
 refine⟨(Question.appendCap (sLen+n) sCap e).cut (w.tape w.drawn (Question.appendCap (sLen+n) sCap e)),by simp[Question.cut],?_⟩
 cases xT with
 |none=>
  simp only[Builtin.append_,h0,ab,List.getElem?_toArray,List.getElem?_cons_zero,List.getElem?_cons_succ,Sem.run_bind,bO hu,Result.andThen_ok,bE,Sem.run_pure,aw,Bool.false_eq_true,if_false,if_neg IX,AU,xN,false_and,if_neg vw,
   run_choose,AT,run_askRoom,World.drew_eq,hold,ln,Bool.not_false,if_true,a0,AV 0]
 |some jC=>
  simp only[o6] at ad
  cases aq:P.underlying jC with
  |none=>rw[aq] at ad;cases ad
  |some d=>
   rw[aq] at ad
   cases d<;>first
   |(cases ad;done)
   |simp only[Builtin.append_,h0,ab,List.getElem?_toArray,List.getElem?_cons_zero,List.getElem?_cons_succ,Sem.run_bind,bO hu,bO aq,Result.andThen_ok,bE,Sem.run_pure,aw,Bool.false_eq_true,if_false,if_neg IX,AU,xN,false_and,if_neg vw,
    run_choose,AT,run_askRoom,World.drew_eq,hold,ln,Bool.not_false,if_true,a0,AV 0]
theorem xO{sT e:TypeId}{xT:Option TypeId}{i:TypeInfo}{argTypes:Array TypeId}{ty:TypeId}(h0:argTypes[0]? =some sT)(ab:argTypes[1]? =xT)(hu:P.underlying sT=some (.slice e))(ad:o6 P xT=true)(af:P.info? e=some i)
  {base:Option Addr}{sLen sCap n:Nat}{br:Value}(aw:(Builtin.lenOf br).run P w=.ok n w){us:List Value}
  (ln:(Builtin.firstCells i.size n br).run P w=.ok ⟨us⟩ w)(hle:sLen+n<=sCap):
  (Builtin.append_ argTypes ty #[.slice base sLen sCap,br]).run P w=match base with
   |some a=>((_root_.Go.storeCells (a.add (sLen*i.size)) us).run P w).andThen λ_ w'=>.ok (.slice base (sLen+n) sCap) w'
   |none=>.ok (.slice base (sLen+n) sCap) w:=by
 have bE:∀w:World,(_root_.Go.sizeOf e).run P w=.ok i.size w:=λw=>by simp[_root_.Go.sizeOf,run_typeInfo af]
 cases xT with
 |none=>
  cases base<;>simp only[Builtin.append_,h0,ab,List.getElem?_toArray,List.getElem?_cons_zero,List.getElem?_cons_succ,Sem.run_bind,bO hu,Result.andThen_ok,bE,Sem.run_pure,aw,Bool.false_eq_true,if_false,if_pos hle,Bool.not_false,if_true,ln]
 |some jC=>
  simp only[o6] at ad
  cases aq:P.underlying jC with
  |none=>rw[aq] at ad;cases ad
  |some d=>
   rw[aq] at ad
   cases d<;>first
   |(cases ad;done)
   |cases base<;>simp only[Builtin.append_,h0,ab,List.getElem?_toArray,List.getElem?_cons_zero,List.getElem?_cons_succ,Sem.run_bind,bO hu,bO aq,Result.andThen_ok,bE,Sem.run_pure,aw,Bool.false_eq_true,if_false,if_pos hle,Bool.not_false,if_true,ln]
theorem Rg{l:List J}(h:l.all J.bF=true):∀a∈l,a.bF=true:=λa a5=>List.all_eq_true.1 h a a5
theorem DW(aj:bm μ H w){sT e:TypeId}{xT:Option TypeId}{i:TypeInfo}{z:J}{argTypes:Array TypeId}{ty:TypeId}(h0:argTypes[0]? =some sT)(ab:argTypes[1]? =xT)(hu:P.underlying sT=some (.slice e))(ad:o6 P xT=true)
  (af:P.info? e=some i)(a0:eG P e=some z){base:Option Addr}{sLen sCap n:Nat}{x:J}{br:Value}(IY:bd μ x br){cs:List J}(gU:hP H i.size x=some (n,cs)){old:List J}
  (hold:∃us:List Value,(Builtin.firstCells i.size sLen (.slice base sLen sCap)).run P w.drew=.ok ⟨us⟩ w.drew/\b9 μ old us)(xP:old.length=sLen*i.size)(hd:cs.length=n*i.size)(cx:sCap<sLen+n){v:J}{H1 aZ:aa}(jB:bm μ H1 w)(Rh:b4 μ H w μ H1 w)
  {fz:Nat}(ao:kY H1 e i.bytes i.size (sLen+n) z (old++cs) fz=some (v,aZ)):fs P μ H w (Builtin.append_ argTypes ty #[.slice base sLen sCap,br]) v aZ:=by
 obtain⟨fK,IZ,rfl,ag⟩:=lW (P:=P) (w:=w) a0
 have Ri:∀w:World,(zeroValue e).run P w=.ok fK w:=λw=>by
  unfold eG at a0
  simp only[af] at a0
  cases I0:i.zero with
  |none=>rw[I0] at a0;cases a0
  |some Rj=>
   have aR:∀w:World,(zeroValue e).run P w=.ok Rj w:=λw=>by simp[zeroValue,run_typeInfo af,I0]
   rw[aR] at IZ
   cases IZ
   exact aR w
 obtain⟨aw,us,lY,lo⟩:=AS (P:=P) aj IY gU
 obtain⟨_,rI,Rk,I1⟩:=AS (P:=P) aj.drew IY gU
 obtain⟨os,xB,I2⟩:=hold
 unfold kY at ao
 split at ao
 · rename_i ah
   simp only[Bool.and_eq_true] at ah
   obtain⟨⟨ta,n_⟩,fI⟩:=ah
   cases ao
   obtain⟨lX,AW,AX⟩:=Rd (P:=P) (w:=w) (ty:=ty) h0 ab hu ad af Ri aw xB Rk cx ta
   have jk:=(ke μ fK).cells ag
   have Rl:=Nat.eq_of_beq_eq_true n_
   have Rm:fK.cells.size=i.size:=by have:=jk.length;rw[Rl] at this;simpa using this.symm
   have Rn:b9 μ (old++cs) (os++rI):=I2.append I1
   have Ro:os.length=sLen*i.size:=by rw[<-I2.length,xP]
   have Rp:rI.length=n*i.size:=by rw[<-I1.length,hd]
   have hmul:(sLen+n)*i.size=sLen*i.size+n*i.size:=Nat.add_mul _ _ _
   have I3:lX*i.size=(sLen+n)*i.size+(lX-(sLen+n))*i.size:=by rw[<-Nat.add_mul,Nat.add_sub_of_le AW]
   have Rq:0+lX*i.size=((⟨os⟩:Array Value)++⟨rI⟩++Builtin.zeroCells fK.cells (lX-(sLen+n))).size:=by
    have aR:(⟨os⟩:Array Value).size=sLen*i.size:=Ro
    have aT:(⟨rI⟩:Array Value).size=n*i.size:=Rp
    have bP:(Builtin.zeroCells fK.cells (lX-(sLen+n))).size=(lX-(sLen+n))*i.size:=by
     unfold Builtin.zeroCells;rw[Array.size_map,Array.size_range,Rm]
    rw[Array.size_append,Array.size_append,aR,aT,bP,I3,hmul]
    omega
   have hle:=jB.drew.n6 ⟨w.heap.size,0,lX*i.size⟩
   obtain⟨ba,bt⟩:=jB.drew.alloc (.cells (old++cs) e .aM 0 fz) (.cells (⟨os⟩++⟨rI⟩++Builtin.zeroCells fK.cells (lX-(sLen+n))) e) (lX*i.size)
    ⟨_,0,0,World.heap_alloc_new _ _,λj a aI=>by
      obtain⟨u,n8,ai⟩:=Rn.get aI
      refine⟨u,?_,ai.mono hle⟩
      have DX:j<(os++rI).length:=by
       rcases Nat.lt_or_ge j (os++rI).length with h|h
       · exact h
       · rw[List.getElem?_eq_none h] at n8;cases n8
      rw[Nat.zero_add,Array.getElem?_append_left (by simpa using DX)]
      simpa using n8,Rq,by
      refine⟨?_,λj _ _ h=>by omega⟩
      simp[xP,hd];omega⟩
   refine⟨_,_,_,AX,⟨_,gz _ _ _,lX,rfl,AW,by simp⟩,ba,?_⟩
   exact Rh.trans aj jB (b4.drew.trans jB jB.drew bt)
 · cases ao
end
end ay
