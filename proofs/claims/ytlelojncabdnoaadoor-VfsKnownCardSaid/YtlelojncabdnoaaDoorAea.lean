/-
  THE ABSTRACT EVALUATOR (the evaluator's definitions; values and memory): a deterministic semantics of loaded code, and the proof that its runs are runs of the program in the model, whatever the tape draws. No condition.
-/
import GoSem.Step
import Derived.Calls
import Derived.Laws.Sem
import Derived.Laws.World
set_option linter.unusedVariables false
set_option linter.unusedSimpArgs false
/-
  THE ABSTRACT EVALUATOR, its definitions: a small deterministic semantics for the loaded code: blocks under names of its own, slices whose capacity may be hidden, no tape. What it says of the model is proved in the texts behind this one.
-/
namespace AEv
open Go

/-- What is known of a slice's capacity: its number; that it reaches to its block's end (cells an element); nothing (of an empty slice). -/
inductive Cap where
  | exact (n : Nat)
  | opn (esz : Nat)
  | dead

inductive AV where
  | bad
  | bool (b : Bool)
  | int (k : IntKind) (n : Int)
  | str (s : List UInt8)
  | nilP
  | ptr (b off : Nat)
  | nilS
  | slice (b off len : Nat) (cap : Cap)
  | nilM
  | map (r : Nat)
  | nilF
  | fn (f : Nat) (first caps : List AV)
  | yld (l : Nat)
  | nilI
  | iface (t : Nat) (v : AV)
  | agg (cs : List AV)
  | tup (vs : List AV)
  deriving Inhabited

def AV.isCell : AV → Bool
  | .bad | .agg _ | .tup _ => false
  | _ => true
def AV.cells : AV → List AV
  | .agg cs => cs
  | v => [v]

/-- A path to a register. -/
inductive Pth where
  | here | l (p : Pth) | r (p : Pth)
inductive Tr where
  | leaf
  | node (l : Tr) (v : AV) (r : Tr)

def pthN : Nat → Nat → Pth
  | 0, _ => .here
  | f + 1, n => match n with
    | 0 => .here
    | m + 1 => match Nat.mod m 2 with
      | 0 => .l (pthN f (Nat.div m 2))
      | _ => .r (pthN f (Nat.div m 2))
def pth (n : Nat) : Pth := pthN n n

def Tr.get : Pth → Tr → AV
  | .here, .node _ v _ => v
  | .l p, .node l _ _ => get p l
  | .r p, .node _ _ r => get p r
  | _, .leaf => .bad
def Tr.mkl (l : Tr) (v : AV) (r : Tr) : Tr := match l with
  | .leaf => .node .leaf v r
  | .node a b c => .node (.node a b c) v r
def Tr.mkr (l : Tr) (v : AV) (r : Tr) : Tr := match r with
  | .leaf => .node l v .leaf
  | .node a b c => .node l v (.node a b c)
def Tr.set : Pth → AV → Tr → Tr
  | .here, x, .node l _ r => .node l x r
  | .here, x, .leaf => .node .leaf x .leaf
  | .l p, x, .node l v r => Tr.mkl (set p x l) v r
  | .l p, x, .leaf => Tr.mkl (set p x .leaf) .bad .leaf
  | .r p, x, .node l v r => Tr.mkr l v (set p x r)
  | .r p, x, .leaf => Tr.mkr .leaf .bad (set p x .leaf)

/-- What is known of a block of cells: it is just these cells, and the call's own; its first cells, the call's own, more may lie behind; just these cells, never written; some of its cells, no more to be written. -/
inductive BK where
  | own | opn | ro | fz
  deriving DecidableEq

structure AEnt where
  key : AV
  val : AV
  born : Nat

inductive ADef where
  | call (f : Nat) (args : List AV)
  | collected (r : Nat)

inductive AObj where
  | cells (cs : List AV) (el : Nat) (k : BK) (lo hi : Nat)
  | map (es : List AEnt) (clock : Nat)
  | strIter (s : List UInt8) (pos : Nat)
  | mapIter (m : Option Nat) (since : Nat) (seen : List Nat) (last : Nat)
  | loop (st : LoopState) (pend : Option Code) (fn : Nat) (regs : Tr) (params : List Nat) (assign body : Code) (defers : Nat)
  | defrd (calls : Option (List ADef))
  | raw (o : Obj)

inductive HT where
  | leaf
  | node (l : HT) (v : Option AObj) (r : HT)
def HT.get : HT → Nat → Option AObj
  | .leaf, _ => none
  | .node l v r, n => match n with
    | 0 => v
    | m + 1 => match Nat.mod m 2 with
      | 0 => get l (Nat.div m 2)
      | _ => get r (Nat.div m 2)
def HT.setN : Nat → HT → Nat → Option AObj → HT
  | 0, t, _, _ => t
  | f + 1, .leaf, n, x => match n with
    | 0 => .node .leaf x .leaf
    | m + 1 => match Nat.mod m 2 with
      | 0 => .node (setN f .leaf (Nat.div m 2) x) none .leaf
      | _ => .node .leaf none (setN f .leaf (Nat.div m 2) x)
  | f + 1, .node l v r, n, x => match n with
    | 0 => .node l x r
    | m + 1 => match Nat.mod m 2 with
      | 0 => .node (setN f l (Nat.div m 2) x) v r
      | _ => .node l v (setN f r (Nat.div m 2) x)

structure AHeap where
  t : HT
  n : Nat
def AHeap.get (h : AHeap) (b : Nat) : Option AObj := h.t.get b
def AHeap.set (h : AHeap) (b : Nat) (o : Option AObj) : AHeap := ⟨HT.setN (b + 1) h.t b o, h.n⟩
def AHeap.push (h : AHeap) (o : AObj) : AHeap := ⟨HT.setN (h.n + 1) h.t h.n (some o), h.n + 1⟩

/-- What comes of an operation. -/
inductive OpRes where
  | val (v : AV) (h : AHeap)
  | pan (v : AV) (h : AHeap)
  | call (f : Nat) (args : List AV) (h : AHeap)
  | yld (l : Nat) (args : List AV) (h : AHeap)
  | dfr (d : ADef)
  | rcv
  | fail (why : String)

/-- What comes of a call. -/
inductive FRes where
  | ret (v : AV) (h : AHeap)
  | pan (v : AV) (h : AHeap)
  | fail (why : String)

-- values

mutual
def absV : Value → AV
  | .bool b => .bool b
  | .int k n => .int k n
  | .string s => .str s.data.toList
  | .pointer none => .nilP
  | .slice none 0 0 => .nilS
  | .map none => .nilM
  | .nilFunc => .nilF
  | .nilIface => .nilI
  | .agg ⟨cs⟩ => .agg (absVs cs)
  | .tuple ⟨vs⟩ => .tup (absVs vs)
  | _ => .bad
def absVs : List Value → List AV
  | [] => []
  | v :: vs => absV v :: absVs vs
end

def nth {α : Type} : Nat → List α → Option α
  | _, [] => none
  | 0, a :: _ => some a
  | n + 1, _ :: l => nth n l
def takeN : Nat → List AV → Option (List AV)
  | 0, _ => some []
  | _ + 1, [] => none
  | n + 1, a :: l => match takeN n l with
    | some r => some (a :: r)
    | none => none
def dropN {α : Type} : Nat → List α → List α
  | 0, l => l
  | _ + 1, [] => []
  | n + 1, _ :: l => dropN n l

def beqBytes : List UInt8 → List UInt8 → Bool
  | [], [] => true
  | a :: x, b :: y => match Nat.beq a.toNat b.toNat with
    | true => beqBytes x y
    | false => false
  | _, _ => false
def ltBytes : List UInt8 → List UInt8 → Bool
  | _, [] => false
  | [], _ :: _ => true
  | a :: x, b :: y => match Nat.beq a.toNat b.toNat with
    | true => ltBytes x y
    | false => Nat.blt a.toNat b.toNat

def ltI (x y : Int) : Bool := decide (x < y)
def leI (x y : Int) : Bool := decide (x ≤ y)
def eqI (x y : Int) : Bool := x == y

-- memory

def loadCells (h : AHeap) (b off n : Nat) : Option (List AV) :=
  match h.get b with
  | some (.cells cs _ _ _ _) => takeN n (dropN off cs)
  | _ => none
def load1 (h : AHeap) (b off : Nat) : Option AV :=
  match h.get b with
  | some (.cells cs _ _ _ _) => nth off cs
  | _ => none
def writable (k : BK) (lo hi off n : Nat) : Bool :=
  match k with
  | .ro | .fz => false
  | _ => Nat.ble hi lo || Nat.ble (off + n) lo || Nat.ble hi off
/-- The cells from a place on, written anew: all of them must lie there. -/
def putCells : Nat → List AV → List AV → Option (List AV)
  | 0, [], cs => some cs
  | 0, _ :: _, [] => none
  | 0, v :: vs, _ :: cs => match v.isCell with
    | true => match putCells 0 vs cs with
      | some r => some (v :: r)
      | none => none
    | false => none
  | _ + 1, [], cs => some cs
  | _ + 1, _ :: _, [] => none
  | n + 1, vs, c :: cs => match putCells n vs cs with
    | some r => some (c :: r)
    | none => none
def storeCells (h : AHeap) (b off : Nat) (vs : List AV) : Option AHeap :=
  match h.get b with
  | some (.cells cs el k lo hi) =>
    match writable k lo hi off vs.length with
    | true => match putCells off vs cs with
      | some cs' => some (h.set b (some (.cells cs' el k lo hi)))
      | none => none
    | false => none
  | _ => none
def newRow (h : AHeap) (el : Nat) (cs : List AV) : Option (Nat × AHeap) :=
  match cs.all AV.isCell with
  | true => some (h.n, h.push (.cells cs el .own 0 0))
  | false => none

def isAggT (P : Program) (t : TypeId) : Option Bool :=
  match P.underlying t with
  | some (.struct _) => some true
  | some (.array _ _) => some true
  | some _ => some false
  | none => none
def sizeT (P : Program) (t : TypeId) : Option Nat := match P.info? t with
  | some i => some i.size
  | none => none
def zeroT (P : Program) (t : TypeId) : Option AV := match P.info? t with
  | some i => match i.zero with
    | some z => match absV z with
      | .bad => none
      | a => some a
    | none => none
  | none => none

def partA (P : Program) (t : TypeId) (cs : List AV) (off : Nat) : Option AV :=
  match isAggT P t, sizeT P t with
  | some true, some n => match takeN n (dropN off cs) with
    | some r => some (.agg r)
    | none => none
  | some false, _ => nth off cs
  | _, _ => none

def fillA (place : Nat → Option (Nat × Nat)) (cells : List AV) : List (Nat × AV) → Option (List AV)
  | [] => some cells
  | (i, v) :: rest =>
    match v with
    | .bad => none
    | v => match place i with
      | none => none
      | some (off, size) =>
        match Nat.beq v.cells.length size && Nat.ble (off + size) cells.length with
        | true => match putCells off v.cells cells with
          | some cells' => fillA place cells' rest
          | none => none
        | false => none
def repeatL {α : Type} : Nat → List α → List α
  | 0, _ => []
  | n + 1, l => l ++ repeatL n l

-- equality

def eqFields (P : Program) (E : TypeId → AV → AV → Option Bool) (xs ys : List AV) : List Field → Option Bool
  | [] => some true
  | f :: fs => match decide (f.name = "_") with
    | true => eqFields P E xs ys fs
    | false => match partA P f.type xs f.offset, partA P f.type ys f.offset with
      | some a, some b => match E f.type a b with
        | some true => eqFields P E xs ys fs
        | r => r
      | _, _ => none
def eqItemsA (P : Program) (E : TypeId → AV → AV → Option Bool) (e : TypeId) (sz : Nat) (xs ys : List AV) : Nat → Nat → Option Bool
  | 0, _ => some true
  | n + 1, i => match partA P e xs (i * sz), partA P e ys (i * sz) with
    | some a, some b => match E e a b with
      | some true => eqItemsA P E e sz xs ys n (i + 1)
      | r => r
    | _, _ => none
def eqPtr (h : AHeap) (a i b j : Nat) : Option Bool :=
  match Nat.beq a b with
  | true => some (Nat.beq i j)
  | false => match h.get a, h.get b with
    | some (.cells _ _ .own 0 0), some (.cells _ _ .own 0 0) => some false
    | _, _ => none
def eqA (P : Program) (h : AHeap) : Nat → TypeId → AV → AV → Option Bool
  | 0, _, _, _ => none
  | d + 1, t, x, y =>
    match P.underlying t with
    | none => none
    | some .bool => match x, y with
      | .bool a, .bool b => some (a == b)
      | _, _ => none
    | some (.int _) => match x, y with
      | .int j a, .int k b => if j = k then some (eqI a b) else none
      | _, _ => none
    | some .string => match x, y with
      | .str a, .str b => some (beqBytes a b)
      | _, _ => none
    | some (.pointer e) => match x, y with
      | .nilP, .nilP => some true
      | .nilP, .ptr _ _ => some false
      | .ptr _ _, .nilP => some false
      | .ptr a i, .ptr b j => match sizeT P e with
        | some (_ + 1) => eqPtr h a i b j
        | _ => none
      | _, _ => none
    | some (.slice _) => match x, y with
      | .nilS, .nilS => some true
      | .nilS, .slice _ _ _ _ => some false
      | .slice _ _ _ _, .nilS => some false
      | _, _ => none
    | some (.map _ _) => match x, y with
      | .nilM, .nilM => some true
      | .nilM, .map _ => some false
      | .map _, .nilM => some false
      | _, _ => none
    | some (.func _ _ _) => match x, y with
      | .nilF, .nilF => some true
      | .nilF, .fn _ _ _ => some false
      | .fn _ _ _, .nilF => some false
      | _, _ => none
    | some (.interface _) => match x, y with
      | .nilI, .nilI => some true
      | .nilI, .iface _ _ => some false
      | .iface _ _, .nilI => some false
      | .iface a v, .iface b w => match Nat.beq a b with
        | false => some false
        | true => match P.info? a with
          | some i => match i.comparable with
            | true => eqA P h d a v w
            | false => none
          | none => none
      | _, _ => none
    | some (.struct fs) => match x, y with
      | .agg xs, .agg ys => match P.stoodInHeld t with
        | true => none
        | false => eqFields P (eqA P h d) xs ys fs.toList
      | _, _ => none
    | some (.array n e) => match x, y with
      | .agg xs, .agg ys => match sizeT P e with
        | some sz => eqItemsA P (eqA P h d) e sz xs ys n 0
        | none => none
      | _, _ => none
    | some _ => none

def eqOK (P : Program) (t : TypeId) (x y : Operand) (a b : AV) : Bool :=
  match a, b with
  | .nilI, .nilI => (x matches .const _) || (y matches .const _)
  | .agg _, .agg _ => !P.eqGuardType P.depth t
  | _, _ => true

-- integers

def arith (op : BinOp) (k : IntKind) (x y : Int) : Option AV :=
  match op with
  | .add => some (.int k (k.wrap (x + y)))
  | .sub => some (.int k (k.wrap (x - y)))
  | .mul => some (.int k (k.wrap (x * y)))
  | .quo => if y = 0 then none else some (.int k (k.wrap (x.tdiv y)))
  | .rem => if y = 0 then none else some (.int k (x.tmod y))
  | .and => some (.int k (k.wrap (BitVec.ofInt k.bits x &&& BitVec.ofInt k.bits y).toNat))
  | .or => some (.int k (k.wrap (BitVec.ofInt k.bits x ||| BitVec.ofInt k.bits y).toNat))
  | .xor => some (.int k (k.wrap (BitVec.ofInt k.bits x ^^^ BitVec.ofInt k.bits y).toNat))
  | .andNot => some (.int k (k.wrap (BitVec.ofInt k.bits x &&& ~~~ BitVec.ofInt k.bits y).toNat))
  | .eql => some (.bool (eqI x y))
  | .neq => some (.bool (!eqI x y))
  | .lss => some (.bool (ltI x y))
  | .leq => some (.bool (leI x y))
  | .gtr => some (.bool (ltI y x))
  | .geq => some (.bool (leI y x))
  | _ => none
def shiftA (op : BinOp) (k : IntKind) (x y : Int) : Option AV :=
  if y < 0 then none else
  match op with
  | .shl => some (.int k (k.wrap (x * 2 ^ (min y.toNat k.bits))))
  | .shr => some (.int k (x.fdiv (2 ^ (min y.toNat k.bits))))
  | _ => none
def strOp (op : BinOp) (x y : List UInt8) : Option AV :=
  match op with
  | .add => if ((x.length + y.length : Nat) : Int) > IntKind.i64.max then none else some (.str (x ++ y))
  | .eql => some (.bool (beqBytes x y))
  | .neq => some (.bool (!beqBytes x y))
  | .lss => some (.bool (ltBytes x y))
  | .leq => some (.bool (!ltBytes y x))
  | .gtr => some (.bool (ltBytes y x))
  | .geq => some (.bool (!ltBytes x y))
  | _ => none

def binA (P : Program) (h : AHeap) (op : BinOp) (t : TypeId) (xo yo : Operand) (x y : AV) : Option AV :=
  match x, y with
  | .int k a, .int k' b =>
    match op with
    | .shl | .shr => shiftA op k a b
    | _ => if k = k' then arith op k a b else none
  | .str a, .str b => strOp op a b
  | x, y =>
    match op with
    | .eql => if eqOK P t xo yo x y then (match eqA P h 100 t x y with
      | some b => some (.bool b)
      | none => none) else none
    | .neq => if eqOK P t xo yo x y then (match eqA P h 100 t x y with
      | some b => some (.bool (!b))
      | none => none) else none
    | _ => none

-- slices and strings

def asN : AV → Option Nat
  | .int _ (.ofNat n) => some n
  | _ => none
def optN (d : Nat) : Option AV → Option Nat
  | none => some d
  | some v => asN v
/-- low, high, max of a slice expression over something of a length and a known capacity. -/
def bounds (len cap : Nat) (lo hi mx : Option AV) : Option (Nat × Nat × Nat) :=
  match optN cap mx with
  | none => none
  | some m => match Nat.ble m cap with
    | false => none
    | true => match (match hi, mx with
        | none, none => some len
        | none, some _ => none
        | some v, _ => asN v) with
      | none => none
      | some hh => match Nat.ble hh m with
        | false => none
        | true => match optN 0 lo with
          | none => none
          | some l => match Nat.ble l hh with
            | false => none
            | true => some (l, hh, m)
def sliceA (P : Program) (h : AHeap) (t : TypeId) (x : AV) (lo hi mx : Option AV) : Option AV :=
  match P.underlying t, x with
  | some .string, .str s => match mx with
    | some _ => none
    | none => match bounds s.length s.length lo hi none with
      | some (l, hh, _) => some (.str (List.take (hh - l) (dropN l s)))
      | none => none
  | some (.slice e), .nilS => match sizeT P e, bounds 0 0 lo hi mx with
    | some _, some _ => some .nilS
    | _, _ => none
  | some (.slice e), .slice b off len (.exact cap) => match sizeT P e, bounds len cap lo hi mx with
    | some sz, some (l, hh, m) => some (.slice b (if m = l then off else off + l * sz) (hh - l) (.exact (m - l)))
    | _, _ => none
  | some (.slice e), .slice b off len (.opn esz) => match sizeT P e with
    | some sz => if sz = esz then (match mx with
      | none => match bounds len len lo hi none with
        | some (l, hh, _) => if l = 0 then some (.slice b off hh (.opn esz)) else if Nat.blt l len then some (.slice b (off + l * sz) (hh - l) (.opn esz)) else some (.slice b off 0 .dead)
        | none => none
      | some _ => match bounds len len lo hi mx with
        | some (l, hh, m) => some (.slice b (if m = l then off else off + l * sz) (hh - l) (.exact (m - l)))
        | none => none) else none
    | none => none
  | some (.slice e), .slice b off len .dead => match sizeT P e, bounds 0 0 lo hi mx with
    | some _, some _ => some (.slice b off 0 .dead)
    | _, _ => none
  | some (.array n e), .ptr b off => match sizeT P e, bounds n n lo hi mx with
    | some sz, some (l, hh, m) => some (.slice b (if m = l then off else off + l * sz) (hh - l) (.exact (m - l)))
    | _, _ => none
  | some (.pointer arr), .ptr b off => match P.underlying arr with
    | some (.array n e) => match sizeT P e, bounds n n lo hi mx with
      | some sz, some (l, hh, m) => some (.slice b (if m = l then off else off + l * sz) (hh - l) (.exact (m - l)))
      | _, _ => none
    | _ => none
  | _, _ => none

-- the built-in functions

def lenA (P : Program) (h : AHeap) (t : TypeId) (x : AV) : Option AV :=
  match P.underlying t, x with
  | some .string, .str s => some (.int .i64 (Int.ofNat s.length))
  | some (.array n _), _ => some (.int .i64 (Int.ofNat n))
  | some (.slice _), .slice _ _ n _ => some (.int .i64 (Int.ofNat n))
  | some (.slice _), .nilS => some (.int .i64 0)
  | some (.map _ _), .nilM => some (.int .i64 0)
  | some (.map _ _), .map r => match h.get r with
    | some (.map es _) => some (.int .i64 (Int.ofNat es.length))
    | _ => none
  | some (.pointer a), _ => match P.underlying a with
    | some (.array n _) => some (.int .i64 (Int.ofNat n))
    | _ => none
  | _, _ => none
def capA (P : Program) (t : TypeId) (x : AV) : Option AV :=
  match P.underlying t, x with
  | some (.array n _), _ => some (.int .i64 (Int.ofNat n))
  | some (.slice _), .slice _ _ _ (.exact n) => some (.int .i64 (Int.ofNat n))
  | some (.slice _), .nilS => some (.int .i64 0)
  | _, _ => none

def byteCells : List UInt8 → List AV
  | [] => []
  | b :: l => .int .u8 (Int.ofNat b.toNat) :: byteCells l
/-- How many elements, and their cells. -/
def srcCells (h : AHeap) (size : Nat) : AV → Option (Nat × List AV)
  | .nilS => some (0, [])
  | .str s => match size with
    | 1 => some (s.length, byteCells s)
    | _ => none
  | .slice b off len .dead => if len = 0 then some (0, []) else none
  | .slice b off len _ => match loadCells h b off (len * size) with
    | some cs => some (len, cs)
    | none => none
  | _ => none
/-- Growth is asked for at most so many bytes. -/
def roomOK (need bytes : Nat) : Bool := Nat.ble ((4 * need + 2048) * (bytes + 1)) 281474976710656

/-- What is appended is no number of zeros. -/
def srcOK (P : Program) : Option TypeId → Bool
  | none => true
  | some t => match P.underlying t with
    | some (.int _) => false
    | some _ => true
    | none => false
def growA (h : AHeap) (e bytes size need : Nat) (z : AV) (cs : List AV) (fz : Nat) : Option (AV × AHeap) :=
  match roomOK need bytes && Nat.beq z.cells.length size && cs.all AV.isCell with
  | true => some (.slice h.n 0 need (.opn size), h.push (.cells cs e .opn 0 fz))
  | false => none
def appendA (P : Program) (h : AHeap) (sT : TypeId) (xT : Option TypeId) (s x : AV) : Option (AV × AHeap) :=
  match P.underlying sT, srcOK P xT with
  | some (.slice e), true =>
    match P.info? e, zeroT P e with
    | some i, some z =>
      match srcCells h i.size x with
      | none => none
      | some (n, cs) =>
        match s with
        | .nilS => match n with
          | 0 => some (.nilS, h)
          | _ => growA h e i.bytes i.size n z cs 0
        | .slice b off len (.exact cap) =>
          match Nat.ble (len + n) cap with
          | true => match n with
            | 0 => some (.slice b off len (.exact cap), h)
            | _ => match storeCells h b (off + len * i.size) cs with
              | some h' => some (.slice b off (len + n) (.exact cap), h')
              | none => none
          | false => match loadCells h b off (len * i.size) with
            | some old => growA h e i.bytes i.size (len + n) z (old ++ cs) 0
            | none => none
        | .slice b off len (.opn esz) =>
          match Nat.beq esz i.size && Nat.blt 0 esz with
          | true => match n with
            | 0 => some (s, h)
            | _ => match h.get b with
              | some (.cells old el .opn lo hi) =>
                match Nat.ble (off + (len + n) * esz) old.length with
                | true => match storeCells h b (off + len * esz) cs with
                  | some h' => some (.slice b off (len + n) (.opn esz), h')
                  | none => none
                | false => match Nat.ble hi (off + len * esz) && Nat.beq el e, loadCells h b off (len * esz) with
                  | true, some o => growA (h.set b none) e i.bytes i.size (len + n) z (o ++ cs) (hi - off)
                  | _, _ => none
              | _ => none
          | false => none
        | _ => none
    | _, _ => none
  | _, _ => none

def copyA (P : Program) (h : AHeap) (dT : TypeId) (d s : AV) : Option (AV × AHeap) :=
  match P.underlying dT with
  | some (.slice e) => match sizeT P e with
    | some sz => match srcCells h sz s with
      | some (n, cs) => match d with
        | .nilS => some (.int .i64 0, h)
        | .slice b off len _ =>
          let m := Nat.min n len
          if m = 0 then some (.int .i64 0, h) else
          match takeN (m * sz) cs with
          | some cs' => match storeCells h b off cs' with
            | some h' => some (.int .i64 (Int.ofNat m), h')
            | none => none
          | none => none
        | _ => none
      | none => none
    | none => none
  | _ => none

def clearA (P : Program) (h : AHeap) (t : TypeId) (x : AV) : Option (AV × AHeap) :=
  match P.underlying t, x with
  | some (.map _ _), .nilM => some (.tup [], h)
  | some (.slice _), .nilS => some (.tup [], h)
  | some (.map _ _), .map r => match h.get r with
    | some (.map _ c) => some (.tup [], h.set r (some (.map [] c)))
    | _ => none
  | some (.slice e), .slice b off n _ => if n = 0 then some (.tup [], h) else
    match zeroT P e with
    | some z => match storeCells h b off (repeatL n z.cells) with
      | some h' => some (.tup [], h')
      | none => none
    | none => none
  | _, _ => none

def minA : AV → AV → Option AV
  | .int k x, .int k' y => if k = k' then some (.int k (if ltI y x then y else x)) else none
  | _, _ => none
def maxA : AV → AV → Option AV
  | .int k x, .int k' y => if k = k' then some (.int k (if ltI x y then y else x)) else none
  | _, _ => none
def foldA (f : AV → AV → Option AV) : AV → List AV → Option AV
  | x, [] => some x
  | x, y :: l => match f x y with
    | some z => foldA f z l
    | none => none

def cellBytes : List AV → Option (List UInt8)
  | [] => some []
  | .int .u8 (.ofNat n) :: l => match Nat.blt n 256, cellBytes l with
    | true, some r => some (UInt8.ofNat n :: r)
    | _, _ => none
  | _ => none

def unsafeStrA (P : Program) (h : AHeap) (pT : TypeId) (p n : AV) : Option (AV × AHeap) :=
  match p, asN n with
  | .nilP, some 0 => some (.str [], h)
  | .ptr b off, some n => if n = 0 then some (.str [], h) else
    match P.underlying pT, h.get b with
    | some (.pointer u), some (.cells cs el k lo hi) =>
      if P.underlyingId el = P.underlyingId u && sizeT P el = some 1 && Nat.ble n 281474976710656 && decide (k ≠ .ro) then
        (match takeN n (dropN off cs) with
        | some r => match cellBytes r with
          | some bs => some (.str bs, h.set b (some (.cells cs el .fz lo hi)))
          | none => none
        | none => none) else none
    | _, _ => none
  | _, _ => none

-- maps

/-- Keys are numbers, texts, truth values; or structs and arrays of these. -/
def keyS (P : Program) (kt : TypeId) (k : AV) : Bool :=
  match P.underlying kt with
  | some (.int _) => match k with
    | .int _ _ => true
    | _ => false
  | some .string => match k with
    | .str _ => true
    | _ => false
  | some .bool => match k with
    | .bool _ => true
    | _ => false
  | _ => false
def keyFs (P : Program) (cs : List AV) : List Field → Bool
  | [] => true
  | f :: fs => match partA P f.type cs f.offset with
    | some a => match keyS P f.type a with
      | true => keyFs P cs fs
      | false => false
    | none => false
def keyIs (P : Program) (e : TypeId) (sz : Nat) (cs : List AV) : Nat → Nat → Bool
  | 0, _ => true
  | n + 1, i => match partA P e cs (i * sz) with
    | some a => match keyS P e a with
      | true => keyIs P e sz cs n (i + 1)
      | false => false
    | none => false
def keyT (P : Program) (kt : TypeId) (k : AV) : Bool :=
  match k with
  | .agg cs => match P.underlying kt with
    | some (.struct fs) => keyFs P cs fs.toList
    | some (.array n e) => match sizeT P e with
      | some sz => keyIs P e sz cs n 0
      | none => false
    | _ => false
  | k => keyS P kt k
def sameA : AV → AV → Option Bool
  | .int j a, .int k b => if j = k then some (eqI a b) else none
  | .str a, .str b => some (beqBytes a b)
  | .bool a, .bool b => some (a == b)
  | _, _ => none
def allSame : List AV → List AV → Bool
  | [], [] => true
  | a :: l, b :: m => match sameA a b with
    | some true => allSame l m
    | _ => false
  | _, _ => false
/-- A key that is there already: bit by bit the same. -/
def stayA (k x : AV) : Bool := match k, x with
  | .agg a, .agg b => allSame a b
  | .agg _, _ => false
  | _, _ => true
def sameK (P : Program) (h : AHeap) (kt : TypeId) (k x : AV) : Option Bool := match k with
  | .agg cs => eqA P h 8 kt (.agg cs) x
  | k => sameA k x
def findA (P : Program) (h : AHeap) (kt : TypeId) (k : AV) : List AEnt → Nat → Option (Option (Nat × AV))
  | [], _ => some none
  | e :: es, i => match sameK P h kt k e.key with
    | some true => some (some (i, e.val))
    | some false => findA P h kt k es (i + 1)
    | none => none
def keyAt (i : Nat) (es : List AEnt) : AV := match nth i es with
  | some e => e.key
  | none => .bad
def setEnt (v : AV) (key : AV) : Nat → List AEnt → List AEnt
  | _, [] => []
  | 0, e :: es => ⟨key, v, e.born⟩ :: es
  | n + 1, e :: es => e :: setEnt v key n es
def lookFin (P : Program) (et : TypeId) (ok : Bool) : Option (Nat × AV) → Option AV
  | some (_, v) => some (if ok then .tup [v, .bool true] else v)
  | none => match zeroT P et with
    | some z => some (if ok then .tup [z, .bool false] else z)
    | none => none
def lookupA (P : Program) (h : AHeap) (t : TypeId) (m k : AV) (ok : Bool) : Option AV :=
  match P.underlying t with
  | some (.map kt et) => match keyT P kt k with
    | true => match m with
      | .nilM => lookFin P et ok none
      | .map r => match h.get r with
        | some (.map es _) => match findA P h kt k es 0 with
          | some r => lookFin P et ok r
          | none => none
        | _ => none
      | _ => none
    | false => none
  | _ => none
def mapUpdA (P : Program) (h : AHeap) (t : TypeId) (m k v : AV) : Option AHeap :=
  match P.underlying t with
  | some (.map kt _) => match keyT P kt k with
    | true => match m with
      | .map r => match h.get r with
        | some (.map es clock) => match findA P h kt k es 0 with
          | some (some (i, _)) => match stayA k (keyAt i es) with
            | true => some (h.set r (some (.map (setEnt v k i es) clock)))
            | false => none
          | some none => some (h.set r (some (.map (es ++ [⟨k, v, clock⟩]) (clock + 1))))
          | none => none
        | _ => none
      | _ => none
    | false => none
  | _ => none
def mapEntA (P : Program) (h : AHeap) (t : TypeId) (m k : AV) : Option (AV × AHeap) :=
  match P.underlying t with
  | some (.map kt et) => match keyT P kt k with
    | true => match m with
      | .map r => match h.get r with
        | some (.map es clock) => match findA P h kt k es 0 with
          | some (some (i, v)) => match nth i es with
            | some e => match stayA k e.key with
              | true => some (.tup [v, .int .i64 (Int.ofNat e.born)], h.set r (some (.map (setEnt v k i es) clock)))
              | false => none
            | none => none
          | some none => match zeroT P et with
            | some z => some (.tup [z, .int .i64 (Int.ofNat clock)], h.set r (some (.map (es ++ [⟨k, z, clock⟩]) (clock + 1))))
            | none => none
          | none => none
        | _ => none
      | _ => none
    | false => none
  | _ => none
def bornA (born : Int) : List AEnt → Nat → Option (Nat × AEnt)
  | [], _ => none
  | e :: es, i => match eqI (Int.ofNat e.born) born with
    | true => some (i, e)
    | false => bornA born es (i + 1)
def entStoreA (h : AHeap) (m s v : AV) : Option AHeap :=
  match m, s with
  | .map r, .int _ born => match h.get r with
    | some (.map es clock) => match bornA born es 0 with
      | some (i, e) => some (h.set r (some (.map (setEnt v e.key i es) clock)))
      | none => none
    | _ => none
  | _, _ => none
def delEnt : Nat → List AEnt → List AEnt
  | _, [] => []
  | 0, _ :: es => es
  | n + 1, e :: es => e :: delEnt n es
def deleteA (P : Program) (h : AHeap) (t : TypeId) (m k : AV) : Option (AV × AHeap) :=
  match P.underlying t with
  | some (.map kt _) => match keyT P kt k with
    | true => match m with
      | .nilM => some (.tup [], h)
      | .map r => match h.get r with
        | some (.map es clock) => match findA P h kt k es 0 with
          | some (some (i, _)) => some (.tup [], h.set r (some (.map (delEnt i es) clock)))
          | some none => some (.tup [], h.set r (some (.map es clock)))
          | none => none
        | _ => none
      | _ => none
    | false => none
  | _ => none

def decodeL (s : List UInt8) : Nat × Nat := Utf8.decode ⟨s.toArray⟩ 0

def nextA (h : AHeap) (it : AV) (isStr : Bool) : Option (AV × AHeap) :=
  match it with
  | .ptr r 0 => match h.get r, isStr with
    | some (.strIter s pos), true =>
      (match s with
      | [] => some (.tup [.bool false], h)
      | s => let (c, w) := decodeL s
        some (.tup [.bool true, .int .i64 (Int.ofNat pos), .int .i32 (Int.ofNat c)], h.set r (some (.strIter (dropN w s) (pos + w)))))
    | some (.mapIter none _ _ _), false => some (.tup [.bool false], h)
    | _, _ => none
  | _ => none
/-- The entry that a range over a map has handed out last. -/
def findBorn (b : Nat) : List AEnt → Option AEnt
  | [] => none
  | e :: l => match Nat.beq e.born b with
    | true => some e
    | false => findBorn b l
def lastN : List Nat → Option Nat
  | [] => none
  | [b] => some b
  | _ :: b :: l => lastN (b :: l)
def entryA (h : AHeap) (it : AV) : Option AV :=
  match it with
  | .ptr r 0 => match h.get r with
    | some (.mapIter (some m) _ seen last) => match h.get m, lastN seen with
      | some (.map es clock), some b => match Nat.beq clock last with
        | true => match findBorn b es with
          | some e => some (.tup [e.key, e.val])
          | none => none
        | false => none
      | _, _ => none
    | _ => none
  | _ => none
end AEv

namespace AEv
open Go

inductive Rc where
  | none | act (v : AV) | done (v : AV)
inductive AEx where
  | nrm | exit (id : Nat) | ret | goto (l : Nat) | pan (v : AV)
inductive CRes where
  | ok (e : AEx) (r : Tr) (d : List ADef) (q : Rc) (h : AHeap)
  | fail (why : String)
inductive CallT where
  | fn (f : Nat) | yld (l : Nat)

/-- Where an operand lies. -/
inductive Acc where
  | env (j : Nat) | reg (p : Pth) | val (v : AV)
def getAcc (m : Nat) (env : List AV) (r : Tr) : Acc → AV
  | .env j => (nth (m - 1 - j) env).getD .bad
  | .reg p => r.get p
  | .val v => v
def findLoc (t : Nat) : List (Nat × Acc) → Option Acc
  | [] => none
  | (u, a) :: l => match Nat.beq t u with
    | true => some a
    | false => findLoc t l
def accOf (P : Program) (need : Nat) (loc : List (Nat × Acc)) : Operand → Acc
  | .tmp t => match findLoc t loc with
    | some a => a
    | none => match Nat.testBit need t with
      | true => .reg (pth t)
      | false => .val .bad
  | .const v => .val (absV v)
  | .global g => match Nat.blt g P.globals.size with
    | true => .val (.ptr g 0)
    | false => .val .bad
  | .func f => .val (.fn f [] [])

def callVal (f : AV) (args : List AV) (h : AHeap) : OpRes :=
  match f with
  | .fn g first caps => .call g (first ++ args ++ caps) h
  | .yld l => .yld l args h
  | _ => .fail "callVal"
def ofVal (h : AHeap) (why : String) : Option AV → OpRes
  | some v => .val v h
  | none => .fail why
def ofValH (why : String) : Option (AV × AHeap) → OpRes
  | some (v, h) => .val v h
  | none => .fail why
def ofH (why : String) : Option AHeap → OpRes
  | some h => .val (.tup []) h
  | none => .fail why

def kindName : AV → String
  | .bad => "bad" | .bool _ => "bool" | .int _ n => "int" ++ toString n | .str s => "str" ++ toString s.length | .nilP => "nilP" | .ptr b o => "ptr" ++ toString b ++ "+" ++ toString o | .nilS => "nilS" | .slice b o n c => "slice" ++ toString b ++ "+" ++ toString o ++ "," ++ toString n ++ (match c with | .exact k => "x" ++ toString k | .opn _ => "o" | .dead => "d")
  | .nilM => "nilM" | .map _ => "map" | .nilF => "nilF" | .fn f _ _ => "fn" ++ toString f | .yld _ => "yld" | .nilI => "nilI" | .iface t _ => "iface" ++ toString t | .agg l => "agg" ++ toString l.length | .tup l => "tup" ++ toString l.length

/-- An interface value's method, where it is the dynamic type's own and takes the value as it lies. -/
def methodA (P : Program) (t : TypeId) (name : String) : Option Nat :=
  match P.info? t with
  | some i => match i.methods.find? (·.name == name) with
    | some m => match m.path.isEmpty, m.func, P.underlying t with
      | true, some (f, true), some (.pointer _) => some f
      | true, some (f, false), some (.pointer _) => none
      | true, some (f, false), some _ => some f
      | _, _, _ => none
    | none => none
  | none => none

def evBuiltin (P : Program) (b : Builtin) (ats : Array TypeId) (vs : List AV) (h : AHeap) : OpRes :=
  match b with
  | .recover => .rcv
  | .min => match vs with
    | x :: l => ofVal h "min" (foldA minA x l)
    | [] => .fail "min"
  | .max => match vs with
    | x :: l => ofVal h "max" (foldA maxA x l)
    | [] => .fail "max"
  | b => match ats[0]?, vs with
    | some t, [x] => match b with
      | .len => ofVal h ("len " ++ kindName x) (lenA P h t x)
      | .cap => ofVal h "cap" (capA P t x)
      | .clear => ofValH "clear" (clearA P h t x)
      | .unsafeSliceData => match x with
        | .nilS => .val .nilP h
        | .slice b off n (.exact c) => if c = 0 then .fail "SliceData" else .val (.ptr b off) h
        | .slice b off n (.opn _) => if n = 0 then .fail "SliceData" else .val (.ptr b off) h
        | _ => .fail "SliceData"
      | _ => .fail "builtin"
    | some t, [x, y] => match b with
      | .append => ofValH ("append " ++ kindName x ++ " " ++ kindName y) (appendA P h t ats[1]? x y)
      | .copy => ofValH "copy" (copyA P h t x y)
      | .delete => ofValH "delete" (deleteA P h t x y)
      | .unsafeString => ofValH "usString" (unsafeStrA P h t x y)
      | _ => .fail "builtin"
    | _, _ => .fail "builtin"

def evConvert (P : Program) (src dst : TypeId) (x : AV) (h : AHeap) : OpRes :=
  match P.underlying src, P.underlying dst, x with
  | some (.int _), some (.int k), .int _ n => .val (.int k (k.wrap n)) h
  | some (.int _), some .string, .int _ n => .val (.str (Utf8.encode n).data.toList) h
  | some .string, some .string, .str s => .val (.str s) h
  | some .string, some (.slice e), .str s => match P.underlying e with
    | some (.int .u8) => .val (.slice h.n 0 s.length (.opn 1)) (h.push (.cells (byteCells s) e .opn 0 0))
    | _ => .fail "convert to runes"
  | some (.slice e), some .string, v => match P.underlying e, v with
    | some (.int .u8), .nilS => .val (.str []) h
    | some (.int .u8), .slice b off n .dead => if n = 0 then .val (.str []) h else .fail "convert dead"
    | some (.int .u8), .slice b off n _ => match loadCells h b off n with
      | some cs => match cellBytes cs with
        | some bs => .val (.str bs) h
        | none => .fail "convert bytes"
      | none => .fail "convert bytes"
    | _, _ => .fail "convert slice to string"
  | some (.pointer u), some .unsafePointer, .ptr b off => match h.get b, sizeT P u with
    | some (.cells cs _ _ _ _), some (_ + 1) => if Nat.blt off cs.length then .val (.ptr b off) h else .fail "convert pointer"
    | _, _ => .fail "convert pointer"
  | some .unsafePointer, some (.pointer u), .ptr b off => match h.get b, sizeT P u with
    | some (.cells cs el .own _ _), some (_ + 1) => if liesAt P P.depth el (cs.length / P.cellsOf el) off u 1 then .val (.ptr b off) h else .fail "convert from pointer"
    | _, _ => .fail "convert from pointer"
  | _, _, v => .fail ("convert " ++ kindName v)

def evOp (P : Program) (o : Oper) (g : Operand → AV) (h : AHeap) : OpRes :=
  match o.op with
  | .move x | .assign x => .val (g x) h
  | .pick c a b => match g c with
    | .bool true => .val (g a) h
    | .bool false => .val (g b) h
    | _ => .fail "pick"
  | .alloc e => match zeroT P e with
    | some z => match newRow h e z.cells with
      | some (b, h') => .val (.ptr b 0) h'
      | none => .fail "alloc"
    | none => .fail "alloc"
  | .box e x => match newRow h e (g x).cells with
    | some (b, h') => .val (.ptr b 0) h'
    | none => .fail "box"
  | .build t parts => match zeroT P t with
    | some z => match P.underlying t with
      | some (.struct fs) => match fs.toList.all (fun f => (sizeT P f.type).isSome), fillA (fun i => (fs[i]?).map fun f => (f.offset, P.cellsOf f.type)) z.cells (parts.toList.map fun p => (p.1, g p.2)) with
        | true, some cs => .val (.agg cs) h
        | _, _ => .fail "build"
      | some (.array _ e) => match sizeT P e with
        | some sz => match fillA (fun i => some (i * sz, sz)) z.cells (parts.toList.map fun p => (p.1, g p.2)) with
          | some cs => .val (.agg cs) h
          | none => .fail "build array"
        | none => .fail "build"
      | _ => .fail "build"
    | none => .fail "build"
  | .buildSlice t len parts => match P.underlying t with
    | some (.slice e) => match sizeT P e, zeroT P e with
      | some sz, some z => match Nat.ble (len * sz) 16777216 && Nat.beq z.cells.length sz, fillA (fun i => some (i * sz, sz)) (if len * sz = 0 then [] else repeatL len z.cells) (parts.toList.map fun p => (p.1, g p.2)) with
        | true, some cs => match newRow h e cs with
          | some (b, h') => .val (.slice b 0 len (.exact len)) h'
          | none => .fail "buildSlice"
        | _, _ => .fail "buildSlice"
      | _, _ => .fail "buildSlice"
    | _ => .fail "buildSlice"
  | .insert t m k v => ofH "insert" (mapUpdA P h t (g m) (g k) (g v))
  | .load t a => match g a with
    | .ptr b off => match isAggT P t, sizeT P t with
      | some true, some n => match loadCells h b off n with
        | some cs => .val (.agg cs) h
        | none => .fail ("load agg " ++ toString b ++ "+" ++ toString off)
      | some false, _ => ofVal h ("load " ++ toString b ++ "+" ++ toString off) (load1 h b off)
      | _, _ => .fail "load"
    | v => .fail ("load of " ++ kindName v)
  | .store t a v => match g a with
    | .ptr b off => match g v, sizeT P t with
      | .bad, _ => .fail "store bad"
      | v, some n => match Nat.beq v.cells.length n with
        | true => ofH "store" (storeCells h b off v.cells)
        | false => .fail "store size"
      | _, none => .fail "store"
    | _ => .fail "store"
  | .ready _ | .waits _ => .fail "ready"
  | .nilCheck x => match g x with
    | .ptr b o => .val (.ptr b o) h
    | .slice b o n c => .val (.slice b o n c) h
    | .fn f a b => .val (.fn f a b) h
    | .iface t v => .val (.iface t v) h
    | _ => .fail "nilCheck"
  | .binOp op t x y _ => ofVal h ("binOp " ++ kindName (g x) ++ " " ++ kindName (g y)) (binA P h op t x y (g x) (g y))
  | .unOp op _ x => match op, g x with
    | .not, .bool b => .val (.bool (!b)) h
    | .neg, .int k n => .val (.int k (k.wrap (0 - n))) h
    | .xor, .int k n => ofVal h "unOp" (arith .xor k (if k.signed then -1 else k.max) n)
    | _, _ => .fail "unOp"
  | .convert src dst x => evConvert P src dst (g x) h
  | .sliceToArrayPointer .. => .fail "sliceToArrayPointer"
  | .makeInterface t x => match P.underlying t with
    | some (.interface _) => .fail "makeInterface"
    | some _ => .val (.iface t (g x)) h
    | none => .fail "makeInterface"
  | .makeFunc fn first caps => match fn with
    | .func f => .val (.fn f (first.toList.map g) (caps.toList.map g)) h
    | _ => .fail "makeFunc"
  | .makeMap t r => match r with
    | none => .val (.map h.n) (h.push (.map [] 0))
    | some x => match P.underlying t, g x with
      | some (.map _ _), .int _ _ => .val (.map h.n) (h.push (.map [] 0))
      | _, _ => .fail "makeMap"
  | .makeChan .. => .fail "makeChan"
  | .makeSlice t l c => match P.underlying t, asN (g l), asN (g c) with
    | some (.slice e), some l, some c => match P.info? e, zeroT P e with
      | some i, some z => if l ≤ c && Nat.ble (c * (i.bytes + 1)) 1099511627776 && Nat.beq z.cells.length i.size then (match newRow h e (if c * i.size = 0 then [] else repeatL c z.cells) with
        | some (b, h') => .val (.slice b 0 l (.exact c)) h'
        | none => .fail "makeSlice") else .fail "makeSlice bounds"
      | _, _ => .fail "makeSlice"
    | _, _, _ => .fail "makeSlice"
  | .slice t x lo hi mx => ofVal h ("slice " ++ kindName (g x) ++ ((lo.map fun o => kindName (g o)).getD "-") ++ ((hi.map fun o => kindName (g o)).getD "-")) (sliceA P h t (g x) (lo.map g) (hi.map g) (mx.map g))
  | .fieldAddr s x f => match P.underlying s, g x with
    | some (.struct fs), .ptr b off => match fs[f]? with
      | some fd => match sizeT P fd.type with
        | some 0 => .fail "fieldAddr 0"
        | some _ => .val (.ptr b (off + fd.offset)) h
        | none => .fail "fieldAddr"
      | none => .fail "fieldAddr"
    | _, v => .fail ("fieldAddr " ++ kindName v)
  | .field t x f => match P.underlying t, g x with
    | some (.struct fs), .agg cs => match fs[f]? with
      | some fd => ofVal h "field" (partA P fd.type cs fd.offset)
      | none => .fail "field"
    | _, _ => .fail "field"
  | .indexAddr t x i => match P.underlying t, g x, asN (g i) with
    | some (.array n e), .ptr b off, some i => match sizeT P e with
      | some sz => if i < n then .val (.ptr b (off + i * sz)) h else .fail "indexAddr range"
      | none => .fail "indexAddr"
    | some (.slice e), .slice b off n c, some i => match sizeT P e with
      | some sz => if i < n then .val (.ptr b (off + i * sz)) h else .fail "indexAddr range"
      | none => .fail "indexAddr"
    | _, v, w => .fail ("indexAddr " ++ kindName v ++ kindName (g i))
  | .index t x i => match P.underlying t, g x, asN (g i) with
    | some (.array n e), .agg cs, some i => match sizeT P e with
      | some sz => if i < n then ofVal h "index" (partA P e cs (i * sz)) else .fail "index range"
      | none => .fail "index"
    | some .string, .str s, some i => match nth i s with
      | some b => .val (.int .u8 (Int.ofNat b.toNat)) h
      | none => .fail "index str range"
    | _, _, _ => .fail "index"
  | .lookup t x i ok => ofVal h "lookup" (lookupA P h t (g x) (g i) ok)
  | .mapUpdate t m k v => ofH "mapUpdate" (mapUpdA P h t (g m) (g k) (g v))
  | .mapEntry t m k => ofValH "mapEntry" (mapEntA P h t (g m) (g k))
  | .entryStore t m s v => ofH "entryStore" (entStoreA h (g m) (g s) (g v))
  | .range t x => match P.underlying t, g x with
    | some .string, .str s => .val (.ptr h.n 0) (h.push (.strIter s 0))
    | some (.map _ _), .nilM => .val (.ptr h.n 0) (h.push (.mapIter none 0 [] 0))
    | some (.map _ _), .map m => match h.get m with
      | some (.map _ c) => .val (.ptr h.n 0) (h.push (.mapIter (some m) c [] c))
      | _ => .fail "range"
    | _, _ => .fail "range"
  | .next it isStr => ofValH "next" (nextA h (g it) isStr)
  | .entry it => ofVal h "entry" (entryA h (g it))
  | .typeAssert x xT as ok => match P.underlying as, g x with
    | some (.interface _), _ => .fail "typeAssert to an interface"
    | some _, .nilI => if ok then (match zeroT P as with | some z => .val (.tup [z, .bool false]) h | none => .fail "typeAssert") else .fail "typeAssert nil"
    | some _, .iface t v => if t = as then .val (if ok then .tup [v, .bool true] else v) h else
      if ok then (match zeroT P as with | some z => .val (.tup [z, .bool false]) h | none => .fail "typeAssert") else .fail "typeAssert fails"
    | _, _ => .fail "typeAssert"
  | .extract t i => match g t with
    | .tup vs => ofVal h "extract" (nth i vs)
    | _ => .fail "extract"
  | .call c => match c.callee with
    | .value f => callVal (g f) (c.args.toList.map g) h
    | .invoke r name => match g r with
      | .iface t v => match methodA P t name with
        | some f => .call f (v :: c.args.toList.map g) h
        | none => .fail ("invoke " ++ name)
      | _ => .fail ("invoke " ++ name)
    | .builtin b => evBuiltin P b c.argTypes (c.args.toList.map g) h
  | .go _ => .fail "go"
  | .defer c => match c.callee with
    | .value f => match g f with
      | .fn k first caps => .dfr (.call k (first ++ c.args.toList.map g ++ caps))
      | _ => .fail "defer"
    | _ => .fail "defer"
  | .panic x => match g x with
    | .iface t v => .pan (.iface t v) h
    | _ => .fail "panic"
  | .send .. | .recv .. | .select .. => .fail "comm"

/-- A step of a region: a guard, and the operation. -/
structure Step where
  guard : Option (Acc × Bool)
  o : Oper
  loc : List (Nat × Acc)
  m : Nat

structure Plan where
  steps : List Step
  loc : List (Nat × Acc)

def guardAcc (P : Program) (need : Nat) (ops : Array Oper) (loc : List (Nat × Acc)) (o : Oper) : Option (Acc × Bool) :=
  match o.guard with
  | none => none
  | some (j, b) => match (ops[j]?).bind (·.dst) with
    | some t => some (accOf P need loc (.tmp t), b)
    | none => some (.val .bad, b)

/-- A plain move: no step, but another name. -/
def aliasOf (o : Oper) : Option (Nat × Operand) :=
  match o.guard, o.dst, o.op with
  | none, some t, .move x => some (t, x)
  | none, some t, .assign x => some (t, x)
  | _, _, _ => none
def nextLoc (o : Oper) (m : Nat) (loc : List (Nat × Acc)) : List (Nat × Acc) :=
  match o.dst with
  | some t => (t, .env m) :: loc
  | none => loc
def planGo (P : Program) (need : Nat) (ops : Array Oper) : List Oper → List (Nat × Acc) → List Step → Nat → Plan
  | [], loc, st, _ => ⟨st.reverse, loc⟩
  | o :: rest, loc, st, m =>
    match aliasOf o with
    | some (t, x) => planGo P need ops rest ((t, accOf P need loc x) :: loc) st m
    | none => planGo P need ops rest (nextLoc o m loc) (⟨guardAcc P need ops loc o, o, loc, m⟩ :: st) (m + 1)
def planOf (P : Program) (need : Nat) (ops : Array Oper) : Plan := planGo P need ops ops.toList [] [] 0

inductive RRes where
  | ok (env : List AV) (d : List ADef) (q : Rc) (h : AHeap)
  | pan (v : AV) (d : List ADef) (q : Rc) (h : AHeap)
  | fail (why : String)
/-- What comes of an operation in its frame. -/
inductive SRes where
  | ok (v : AV) (d : List ADef) (q : Rc) (h : AHeap)
  | pan (v : AV) (d : List ADef) (q : Rc) (h : AHeap)
  | fail (why : String)

def wantedA : Option (AV × Bool) → Option Bool
  | none => some true
  | some (.bool c, b) => some (c == b)
  | some (.tup [], _) => some false
  | _ => none
def ofF (d : List ADef) (q : Rc) : FRes → SRes
  | .ret v h => .ok v d q h
  | .pan v h => .pan v d q h
  | .fail w => .fail w
def evOne (P : Program) (inR : Bool) (call : CallT → List AV → AHeap → FRes) (gd : Option (AV × Bool)) (o : Oper) (g : Operand → AV) (d : List ADef) (q : Rc) (h : AHeap) : SRes :=
  match wantedA gd with
  | none => .fail ("guard " ++ o.pos)
  | some false => .ok (.tup []) d q h
  | some true =>
    match evOp P o g h with
    | .val v h' => .ok v d q h'
    | .pan v h' => .pan v d q h'
    | .call f args h' => ofF d q (call (.fn f) args h')
    | .yld l args h' => ofF d q (call (.yld l) args h')
    | .dfr x => if inR then .fail "defer in a round" else .ok (.tup []) (x :: d) q h
    | .rcv => if inR then .fail "recover in a round" else match q with
      | .none => .ok .nilI d .none h
      | .done v => .ok .nilI d (.done v) h
      | .act v => .ok v d (.done v) h
    | .fail w => .fail (w ++ " at " ++ o.pos)

def evSteps (P : Program) (need : Nat) (inR : Bool) (call : CallT → List AV → AHeap → FRes) (r : Tr) : List Step → List AV → List ADef → Rc → AHeap → RRes
  | [], env, d, q, h => .ok env d q h
  | s :: rest, env, d, q, h =>
    match evOne P inR call (match s.guard with | none => none | some (a, b) => some (getAcc s.m env r a, b)) s.o (fun x => getAcc s.m env r (accOf P need s.loc x)) d q h with
    | .ok v d' q' h' => evSteps P need inR call r rest (v :: env) d' q' h'
    | .pan v d' q' h' => .pan v d' q' h'
    | .fail w => .fail w

-- regions whose operations come in any order that their edges allow

def Cap.beq : Cap → Cap → Bool
  | .exact a, .exact b => Nat.beq a b
  | .opn a, .opn b => Nat.beq a b
  | .dead, .dead => true
  | _, _ => false
mutual
def AV.beq : AV → AV → Bool
  | .bool a, .bool b => a == b
  | .int j a, .int k b => decide (j = k) && eqI a b
  | .str a, .str b => beqBytes a b
  | .nilP, .nilP => true
  | .ptr a i, .ptr b j => Nat.beq a b && Nat.beq i j
  | .nilS, .nilS => true
  | .slice a i n c, .slice b j m d => Nat.beq a b && Nat.beq i j && Nat.beq n m && c.beq d
  | .nilM, .nilM => true
  | .map a, .map b => Nat.beq a b
  | .nilF, .nilF => true
  | .fn f a b, .fn g c d => Nat.beq f g && AV.beqs a c && AV.beqs b d
  | .yld a, .yld b => Nat.beq a b
  | .nilI, .nilI => true
  | .iface t v, .iface u w => Nat.beq t u && AV.beq v w
  | .agg a, .agg b => AV.beqs a b
  | .tup a, .tup b => AV.beqs a b
  | _, _ => false
def AV.beqs : List AV → List AV → Bool
  | [], [] => true
  | a :: as, b :: bs => AV.beq a b && AV.beqs as bs
  | _, _ => false
end

/-- What an operation may do: nothing but its value; lay a new block; anything. -/
inductive OK where
  | pure | alloc | eff
def kindOf (P : Program) : Op → OK
  | .move _ | .assign _ | .pick .. | .build .. | .load .. | .nilCheck _ | .binOp .. | .unOp .. | .makeInterface .. | .makeFunc .. | .slice .. | .fieldAddr .. | .field .. | .indexAddr .. | .index .. | .lookup .. | .typeAssert .. | .extract .. => .pure
  | .convert _ d _ => match P.underlying d with
    | some (.slice _) => .eff
    | _ => .pure
  | .call c => match c.callee with
    | .builtin .len | .builtin .cap | .builtin .min | .builtin .max | .builtin .unsafeSliceData => .pure
    | _ => .eff
  | .alloc _ | .box .. | .buildSlice .. | .makeSlice .. => .alloc
  | .makeMap _ none => .alloc
  | _ => .eff
/-- A new block's content, and its value at a place. -/
def allocA (P : Program) (o : Op) (g : Operand → AV) (b : Nat) : Option (AV × AObj) :=
  match o with
  | .alloc e => match zeroT P e with
    | some z => match z.cells.all AV.isCell with
      | true => some (.ptr b 0, .cells z.cells e .own 0 0)
      | false => none
    | none => none
  | .box e x => match (g x).cells.all AV.isCell with
    | true => some (.ptr b 0, .cells (g x).cells e .own 0 0)
    | false => none
  | .buildSlice t len parts => match P.underlying t with
    | some (.slice e) => match sizeT P e, zeroT P e with
      | some sz, some z => match Nat.ble (len * sz) 16777216 && Nat.beq z.cells.length sz, fillA (fun i => some (i * sz, sz)) (if len * sz = 0 then [] else repeatL len z.cells) (parts.toList.map fun p => (p.1, g p.2)) with
        | true, some cs => match cs.all AV.isCell with
          | true => some (.slice b 0 len (.exact len), .cells cs e .own 0 0)
          | false => none
        | _, _ => none
      | _, _ => none
    | _ => none
  | .makeSlice t l c => match P.underlying t, asN (g l), asN (g c) with
    | some (.slice e), some l, some c => match P.info? e, zeroT P e with
      | some i, some z => match decide (l ≤ c) && Nat.ble (c * (i.bytes + 1)) 1099511627776 && Nat.beq z.cells.length i.size, (if c * i.size = 0 then [] else repeatL c z.cells) with
        | true, cs => match cs.all AV.isCell with
          | true => some (.slice b 0 l (.exact c), .cells cs e .own 0 0)
          | false => none
        | _, _ => none
      | _, _ => none
    | _, _, _ => none
  | .makeMap _ none => some (.map b, .map [] 0)
  | _ => none

structure DStep where
  i : Nat
  o : Oper
  bef : Nat
  loc : List (Nat × Acc)
def maskOf (masks : List Nat) (n : Nat) (o : Oper) : Nat :=
  o.after.foldl (fun s e => match Region.binds .any e with
    | true => s ||| 1 <<< e.on ||| (nth (n - 1 - e.on) masks).getD 0
    | false => s) 0
def dplan : List Oper → Nat → List (Nat × Acc) → List Nat → List DStep
  | [], _, _, _ => []
  | o :: l, n, loc, masks =>
    let m := maskOf masks n o
    ⟨n, o, m, loc⟩ :: dplan l (n + 1) (nextLoc o n loc) (m :: masks)
def dloc : List Oper → Nat → List (Nat × Acc) → List (Nat × Acc)
  | [], _, loc => loc
  | o :: l, n, loc => dloc l (n + 1) (nextLoc o n loc)
def dguard (P : Program) (need : Nat) (ops : Array Oper) (r : Tr) (n : Nat) (env : List AV) (s : DStep) : Option (AV × Bool) :=
  match guardAcc P need ops s.loc s.o with
  | none => none
  | some (a, b) => some (getAcc n env r a, b)
inductive DRes where
  | ok (env : List AV) (d : List ADef) (q : Rc) (h : AHeap) (sts : List (Nat × Nat × AHeap))
  | pan (v : AV) (env : List AV) (d : List ADef) (q : Rc) (h : AHeap) (sts : List (Nat × Nat × AHeap))
  | fail (why : String)
/-- In the text's order. What is kept: an effect's number, what stands ahead of it, memory as it found it. -/
def evD (P : Program) (need : Nat) (inR : Bool) (call : CallT → List AV → AHeap → FRes) (ops : Array Oper) (r : Tr) (b0 : Nat) : List DStep → List AV → List ADef → Rc → AHeap → List (Nat × Nat × AHeap) → DRes
  | [], env, d, q, h, sts => .ok env d q h sts
  | s :: rest, env, d, q, h, sts =>
    let gd := dguard P need ops r s.i env s
    let g := fun x => getAcc s.i env r (accOf P need s.loc x)
    match kindOf P s.o.op with
    | .alloc => match wantedA gd with
      | none => .fail ("guard " ++ s.o.pos)
      | some false => evD P need inR call ops r b0 rest (.tup [] :: env) d q h sts
      | some true => match allocA P s.o.op g (b0 + s.i) with
        | some (v, o) => evD P need inR call ops r b0 rest (v :: env) d q (h.set (b0 + s.i) (some o)) sts
        | none => .fail ("alloc " ++ s.o.pos)
    | .pure => match evOne P inR call gd s.o g d q h with
      | .ok v _ _ _ => evD P need inR call ops r b0 rest (v :: env) d q h sts
      | .pan _ _ _ _ => .fail ("pure " ++ s.o.pos)
      | .fail w => .fail w
    | .eff =>
      match (match sts with | [] => true | (e, _, _) :: _ => Nat.testBit s.bef e) with
      | false => .fail ("order " ++ s.o.pos)
      | true => match evOne P inR call gd s.o g d q h with
        | .ok v d' q' h' => evD P need inR call ops r b0 rest (v :: env) d' q' h' ((s.i, s.bef, h) :: sts)
        | .pan v d' q' h' => match rest.all (fun s' => Nat.testBit s'.bef s.i) with
          | true => .pan v env d' q' h' ((s.i, s.bef, h) :: sts)
          | false => .fail ("panic " ++ s.o.pos)
        | .fail w => .fail w
/-- An operation that only looks: at each state of memory in which it may come, the same. -/
def looksOK (P : Program) (need : Nat) (ops : Array Oper) (r : Tr) (n : Nat) (env : List AV) (s : DStep) (v : AV) (h : AHeap) : Bool :=
  match wantedA (dguard P need ops r n env s) with
  | none => false
  | some false => true
  | some true => match evOp P s.o (fun x => getAcc n env r (accOf P need s.loc x)) h with
    | .val v' _ => AV.beq v' v
    | _ => false
/-- The states, the newest first: the one behind the last effect, and those ahead of each. -/
def statesOK (P : Program) (need : Nat) (ops : Array Oper) (r : Tr) (n : Nat) (env : List AV) (s : DStep) (v : AV) : Option Nat → AHeap → List (Nat × Nat × AHeap) → Bool
  | nx, h, sts =>
    (match (match nx with | none => false | some e => Nat.testBit s.bef e) || (match sts with | [] => false | (_, m, _) :: _ => Nat.testBit m s.i) with
      | true => true
      | false => looksOK P need ops r n env s v h) &&
    (match sts with
      | [] => true
      | (e, _, h') :: rest => statesOK P need ops r n env s v (some e) h' rest)
def looksAll (P : Program) (need : Nat) (ops : Array Oper) (r : Tr) (n : Nat) (env : List AV) (last : Option Nat) (h : AHeap) (sts : List (Nat × Nat × AHeap)) : List DStep → Bool
  | [] => true
  | s :: rest => (match Nat.blt s.i n, kindOf P s.o.op with
      | true, .pure => statesOK P need ops r n env s ((nth (n - 1 - s.i) env).getD .bad) last h sts
      | _, _ => true) && looksAll P need ops r n env last h sts rest

def evDraw (P : Program) (need : Nat) (inR : Bool) (call : CallT → List AV → AHeap → FRes) (ops : Array Oper) (r : Tr) (d : List ADef) (q : Rc) (h : AHeap) : RRes :=
  let steps := dplan ops.toList 0 [] []
  match evD P need inR call ops r h.n steps [] d q ⟨h.t, h.n + ops.size⟩ [] with
  | .ok env d' q' h' sts => match looksAll P need ops r env.length env none h' sts steps with
    | true => .ok env d' q' h'
    | false => .fail "orders"
  | .pan v env d' q' h' sts => match sts with
    | (e, _, h0) :: rest => match looksAll P need ops r env.length env (some e) h0 rest steps with
      | true => .pan v d' q' h'
      | false => .fail "orders"
    | [] => .fail "orders"
  | .fail w => .fail w

def setOuts (need : Nat) (m : Nat) (env : List AV) (r0 : Tr) : List (Nat × Acc) → Tr → Tr
  | [], r => r
  | (t, a) :: l, r =>
    -- the newest entry stands first: it is set last
    let r' := setOuts need m env r0 l r
    match Nat.testBit need t with
    | true => r'.set (pth t) (getAcc m env r0 a)
    | false => r'
def inval : List (Nat × Acc) → Tr → Tr
  | [], r => r
  | (t, _) :: l, r => (inval l r).set (pth t) .bad

def toC (need : Nat) (r : Tr) (loc : List (Nat × Acc)) : RRes → CRes
  | .ok env d q h => .ok .nrm (setOuts need env.length env r loc r) d q h
  | .pan v d q h => .ok (.pan v) (inval loc r) d q h
  | .fail w => .fail w
def thenC (x : CRes) (f : Tr → List ADef → Rc → AHeap → CRes) : CRes :=
  match x with
  | .ok .nrm r d q h => f r d q h
  | x => x

def loopN (f : Tr → List ADef → Rc → AHeap → CRes) : Nat → Tr → List ADef → Rc → AHeap → CRes
  | 0, _, _, _, _ => .fail "loop fuel"
  | n + 1, r, d, q, h => thenC (f r d q h) (loopN f n)

def rangeL (rd : Option Nat) (n : Nat) : Nat := match rd with
  | none => n + 1
  | some _ => n
def rangeSt (need : Nat) (rd : Option Nat) (r : Tr) (ps : List Nat) (as bd : Code) (d : List ADef) (h : AHeap) : Option (List ADef × AHeap) :=
  match rd with
  | none => some (.collected h.n :: d, (h.push (.defrd (some []))).push (.loop .ready none need r ps as bd h.n))
  | some l0 => match h.get l0 with
    | some (.loop _ _ _ _ _ _ _ df) => some (d, h.push (.loop .ready none need r ps as bd df))
    | _ => none
def rangeEnd (l : Nat) (r : Tr) (d : List ADef) (q : Rc) : FRes → CRes
  | .ret _ h => match h.get l with
    | some (.loop st pend nd rg ps as bd df) => match st with
      | .busy => .fail "rangeFunc: busy"
      | _ => match pend with
        | none => .ok .nrm r d q (h.set l (some (.loop .exhausted pend nd rg ps as bd df)))
        | some .ret => .ok .ret r d q (h.set l (some (.loop .exhausted pend nd rg ps as bd df)))
        | some (.exit id) => .ok (.exit id) r d q (h.set l (some (.loop .exhausted pend nd rg ps as bd df)))
        | _ => .fail "rangeFunc: goto"
    | _ => .fail "rangeFunc: loop gone"
  | .pan v h => .ok (.pan v) r d q h
  | .fail w => .fail w

def evCode (P : Program) (need : Nat) (rd : Option Nat) (call : CallT → List AV → AHeap → FRes) : Code → Tr → List ADef → Rc → AHeap → CRes
  | .skip, r, d, q, h => .ok .nrm r d q h
  | .region id ops draw, r, d, q, h =>
    match draw with
    | false =>
      let pl := planOf P need ops
      toC need r pl.loc (evSteps P need rd.isSome call r pl.steps [] d q h)
    | true => toC need r (dloc ops.toList 0 []) (evDraw P need rd.isSome call ops r d q h)
  | .seq a b, r, d, q, h => thenC (evCode P need rd call a r d q h) (evCode P need rd call b)
  | .cond c a b, r, d, q, h => match getAcc 0 [] r (accOf P need [] c) with
    | .bool true => evCode P need rd call a r d q h
    | .bool false => evCode P need rd call b r d q h
    | _ => .fail "cond"
  | .block id b, r, d, q, h => match evCode P need rd call b r d q h with
    | .ok (.exit i) r' d' q' h' => if i = id then .ok .nrm r' d' q' h' else .ok (.exit i) r' d' q' h'
    | x => x
  | .loop b, r, d, q, h => loopN (evCode P need rd call b) 100000 r d q h
  | .exit id, r, d, q, h => .ok (.exit id) r d q h
  | .ret, r, d, q, h => .ok .ret r d q h
  | .label _, r, d, q, h => .ok .nrm r d q h
  | .goto l, r, d, q, h => .fail "goto"
  | .scope b, r, d, q, h => evCode P need rd call b r d q h
  | .rangeFunc f params assign body, r, d, q, h =>
    match rangeSt need rd r params.toList assign body d h with
    | none => .fail "rangeFunc"
    | some (d', h1) =>
      match callVal (getAcc 0 [] r (accOf P need [] f)) [.yld (rangeL rd h.n)] h1 with
      | .call g args h2 => rangeEnd (rangeL rd h.n) r d' q (call (.fn g) args h2)
      | .yld l2 args h2 => rangeEnd (rangeL rd h.n) r d' q (call (.yld l2) args h2)
      | _ => .fail "rangeFunc: no function"
  | .refuse w, _, _, _, _ => .fail ("refuse " ++ w)

-- which registers are read outside the region in which they are written
def bit (t : Nat) : Nat := 1 <<< t
def needOps : List Oper → Nat → Nat → Nat
  | [], _, acc => acc
  | o :: l, written, acc =>
    let acc := o.op.operands.foldl (fun a x => match x with
      | .tmp t => if Nat.testBit written t then a else a ||| bit t
      | _ => a) acc
    needOps l (match o.dst with | some t => written ||| bit t | none => written) acc
def opdBit : Operand → Nat
  | .tmp t => bit t
  | _ => 0
def needCode : Code → Nat → Nat
  | .region _ ops _, acc => needOps ops.toList 0 acc
  | .seq a b, acc => needCode b (needCode a acc)
  | .cond c a b, acc => needCode b (needCode a (acc ||| opdBit c))
  | .block _ b, acc | .loop b, acc | .scope b, acc => needCode b acc
  | .rangeFunc f ps a b, acc => needCode b (needCode a (acc ||| opdBit f ||| ps.foldl (fun a t => a ||| bit t) 0))
  | _, acc => acc
def needFn (fn : Func) : Nat :=
  let rs := fn.results.foldl (fun a r => match r with | .tmp t => a ||| bit t | .cell t _ => a ||| bit t) 0
  match fn.body with
  | some c => needCode c rs
  | none => rs

def initRegs : Nat → List AV → Tr → Tr
  | _, [], r => r
  | i, v :: l, r => initRegs (i + 1) l (r.set (pth i) v)

def oneA (P : Program) (need : Nat) (r : Tr) (h : AHeap) (x : ResultVar) : Option AV :=
  match x with
  | .tmp t => match Nat.testBit need t with
    | true => some (r.get (pth t))
    | false => none
  | .cell t ty => match Nat.testBit need t with
    | true => match r.get (pth t), isAggT P ty, sizeT P ty with
      | .ptr b off, some true, some n => (match loadCells h b off n with | some cs => some (.agg cs) | none => none)
      | .ptr b off, some false, _ => load1 h b off
      | _, _, _ => none
    | false => none
def allA (f : ResultVar → Option AV) : List ResultVar → Option (List AV)
  | [] => some []
  | x :: l => match f x, allA f l with
    | some v, some vs => some (v :: vs)
    | _, _ => none
def resultsA (P : Program) (need : Nat) (fn : Func) (r : Tr) (h : AHeap) : Option AV :=
  match allA (oneA P need r h) fn.results.toList with
  | some [v] => some v
  | some vs => some (.tup vs)
  | none => none

def idxByte (c : Nat) : List UInt8 → Nat → Int
  | [], _ => -1
  | b :: l, i => match Nat.beq b.toNat c with
    | true => Int.ofNat i
    | false => idxByte c l (i + 1)
/-- Library functions without a body. -/
def externA (P : Program) (fn : Func) (name : String) (args : List AV) (h : AHeap) : Option (AV × AHeap) :=
  match args with
  | [.int .i64 (.ofNat n)] => if name = "internal/bytealg.MakeNoZero" then
      (match fn.resultTypes[0]? with
      | some t => match P.underlying t with
        | some (.slice e) => match Nat.ble n 1099511627776 with
          | true => some (.slice h.n 0 n (.opn 1), h.push (.cells (List.replicate n .bad) e .opn 0 0))
          | false => none
        | _ => none
      | none => none) else none
  | [x] => if name = "internal/abi.NoEscape" then some (x, h) else
    if name = "maps.clone" then (match x with
      | .iface t (.map r) => match h.get r with
        | some (.map es c) => some (.iface t (.map h.n), h.push (.map es c))
        | _ => none
      | _ => none) else none
  | [.str s, .int .u8 (.ofNat c)] => if name = "internal/bytealg.IndexByteString" then
      (match Nat.blt c 256 with
      | true => some (.int .i64 (idxByte c s 0), h)
      | false => none) else none
  | _ => none

def rcOf : Option AV → Rc
  | some v => .act v
  | none => .none
def settleA (q : Rc) (pn : Option AV) : Option AV := match q with
  | .done _ => none
  | _ => pn
/-- A function's code, from its arguments on. -/
def evBody (P : Program) (call : CallT → List AV → AHeap → FRes) (fn : Func) (args : List AV) (q : Rc) (h : AHeap) : CRes :=
  match fn.body with
  | some c => match Nat.ble args.length fn.ntmps with
    | true => evCode P (needFn fn) none call c (initRegs 0 args .leaf) [] q h
    | false => .fail "too many arguments"
  | none => .fail "no body"
/-- What a deferred function's code leaves: who is to panic still. -/
def didDefer (P : Program) (fn : Func) (pn : Option AV) : CRes → Option (Option AV × AHeap)
  | .ok e r d q h => match (match e with | .nrm => true | .ret => true | _ => false), d, resultsA P (needFn fn) fn r h with
    | true, [], some _ => some (settleA q pn, h)
    | _, _, _ => none
  | .fail _ => none
/-- The deferred calls of a frame that returns (none) or panics. -/
def evDefers (P : Program) (call : CallT → List AV → AHeap → FRes) (need : Nat) (fn : Func) (r : Tr) : Nat → Option AV → List ADef → AHeap → FRes
  | 0, _, _, _ => .fail "defers"
  | k + 1, pn, ds, h => match ds with
    | [] => match pn with
      | none => match resultsA P need fn r h with
        | some v => .ret v h
        | none => .fail "results"
      | some v => .pan v h
    | .collected b :: ds => match h.get b with
      | some (.defrd (some cs)) => evDefers P call need fn r k pn (cs ++ ds) (h.set b (some (.defrd none)))
      | _ => .fail "collected"
    | .call g args :: ds =>
      match P.funcs[g]? with
      | some gn => match didDefer P gn pn (evBody P call gn args (rcOf pn) h) with
        | some (pn', h') => evDefers P call need fn r k pn' ds h'
        | none => .fail "deferred call"
      | none => .fail "deferred"
def leaveA (P : Program) (call : CallT → List AV → AHeap → FRes) (fn : Func) : CRes → FRes
  | .ok .nrm r d _ h => evDefers P call (needFn fn) fn r 100 none d h
  | .ok .ret r d _ h => evDefers P call (needFn fn) fn r 100 none d h
  | .ok (.pan v) r d _ h => evDefers P call (needFn fn) fn r 100 (some v) d h
  | .ok _ _ _ _ _ => .fail "exit out of a function"
  | .fail w => .fail (w ++ " < " ++ fn.name)

def evFn (P : Program) (call : CallT → List AV → AHeap → FRes) (f : Nat) (args : List AV) (h : AHeap) : FRes :=
  match P.funcs[f]? with
  | none => .fail "no function"
  | some fn =>
    match fn.body with
    | none => match externA P fn fn.name args h with
      | some (v, h') => .ret v h'
      | none => .fail ("extern " ++ fn.name)
    | some _ => leaveA P call fn (evBody P call fn args .none h)
def zipRegs : List Nat → List AV → Tr → Option Tr
  | [], [], r => some r
  | t :: ts, v :: vs, r => zipRegs ts vs (r.set (pth t) v)
  | _, _, _ => none
/-- A round's end: what its body has left by. -/
def roundEnd (l : Nat) : CRes → FRes
  | .ok e _ [] _ h => match h.get l with
    | some (.loop .busy _ nd rg ps as bd df) => match e with
      | .nrm => .ret (.bool true) (h.set l (some (.loop .ready none nd rg ps as bd df)))
      | .ret => .ret (.bool false) (h.set l (some (.loop .done (some .ret) nd rg ps as bd df)))
      | .exit id => .ret (.bool false) (h.set l (some (.loop .done (some (.exit id)) nd rg ps as bd df)))
      | .pan v => .pan v h
      | .goto _ => .fail "goto in a round"
    | _ => .fail "round"
  | .ok .. => .fail "round defers"
  | .fail w => .fail (w ++ " < round")
/-- A round, behind the assignment. -/
def roundGo (P : Program) (call : CallT → List AV → AHeap → FRes) (l need : Nat) (bd : Code) : CRes → FRes
  | .ok .nrm r [] _ h => match h.get l with
    | some (.loop .ready pend nd rg ps as' bd' df) => roundEnd l (evCode P need (some l) call bd r [] .none (h.set l (some (.loop .busy pend nd rg ps as' bd' df))))
    | _ => .fail "round"
  | .ok .. => .fail "round assign"
  | .fail w => .fail w
def evRound (P : Program) (call : CallT → List AV → AHeap → FRes) (l : Nat) (args : List AV) (h : AHeap) : FRes :=
  match h.get l with
  | some (.loop .ready _ need rg ps as bd _) =>
    match zipRegs ps args rg with
    | none => .fail "yield: arguments"
    | some r0 => roundGo P call l need bd (evCode P need (some l) call as r0 [] .none h)
  | _ => .fail "yield"
def callN (P : Program) (intr : Nat → List AV → AHeap → Option (AV × AHeap)) : Nat → CallT → List AV → AHeap → FRes
  | 0, _, _, _ => .fail "depth"
  | n + 1, .fn f, args, h => match intr f args h with
    | some (v, h') => .ret v h'
    | none => evFn P (callN P intr n) f args h
  | n + 1, .yld l, args, h => evRound P (callN P intr n) l args h

def emptyHeap (n : Nat) : AHeap := ⟨.leaf, n⟩
def namesOf (ops : Array Oper) (o : Oper) : List Nat :=
  o.dst.toList ++ (o.op.operands.toList.filterMap fun | .tmp t => some t | _ => none) ++ (match o.guard with | some (j, _) => ((ops[j]?).bind (·.dst)).toList | none => [])
def edgesBack (o : Oper) (i : Nat) : Bool := o.after.toList.all fun e => !Region.binds .any e || Nat.blt e.on i
def apartOK (ops : Array Oper) (s : DStep) : List DStep → Bool
  | [] => true
  | s' :: l => (match (match s.o.dst with | some t => (namesOf ops s'.o).contains t | none => false) || (match s'.o.dst with | some t => (namesOf ops s.o).contains t | none => false) with
      | true => Nat.testBit s'.bef s.i
      | false => true) && apartOK ops s l
def drawOK (ops : Array Oper) : List DStep → Bool
  | [] => true
  | s :: l => edgesBack s.o s.i && apartOK ops s l && drawOK ops l
def okCode (nt : Nat) : Code → Bool
  | .region _ ops draw => ops.toList.all (fun o => match o.dst with | some t => Nat.blt t nt | none => true) && (!draw || drawOK ops (dplan ops.toList 0 [] []))
  | .seq a b => okCode nt a && okCode nt b
  | .cond _ a b => okCode nt a && okCode nt b
  | .block _ b | .loop b | .scope b => okCode nt b
  | .rangeFunc _ ps a b => ps.toList.all (fun t => Nat.blt t nt) && okCode nt a && okCode nt b
  | _ => true

end AEv

/-
  THE ABSTRACT EVALUATOR: how its values, its blocks and its registers stand to the model's: under an image of each block.
-/
namespace AEv
open Go

-- paths

def Pth.num : Pth → Nat
  | .here => 0
  | .l p => 2 * p.num + 1
  | .r p => 2 * p.num + 2

theorem pthN_num : ∀ (f n : Nat), n ≤ f → (pthN f n).num = n
  | 0, n, h => by
    obtain rfl : n = 0 := by omega
    rfl
  | f + 1, 0, _ => rfl
  | f + 1, m + 1, h => by
    have e : Nat.mod m 2 = m % 2 := rfl
    have e2 : Nat.div m 2 = m / 2 := rfl
    have ih := pthN_num f (m / 2) (by omega)
    simp only [pthN, e, e2]
    rcases Nat.mod_two_eq_zero_or_one m with h0 | h1
    · simp only [h0, Pth.num, ih]; omega
    · simp only [h1, Pth.num, ih]; omega
theorem pth_num (n : Nat) : (pth n).num = n := pthN_num n n (Nat.le_refl n)
theorem pth_inj {m n : Nat} (h : pth m = pth n) : m = n := by rw [← pth_num m, ← pth_num n, h]

theorem Tr.mkl_eq (l : Tr) (v : AV) (r : Tr) : Tr.mkl l v r = .node l v r := by cases l <;> rfl
theorem Tr.mkr_eq (l : Tr) (v : AV) (r : Tr) : Tr.mkr l v r = .node l v r := by cases r <;> rfl
theorem Tr.get_leaf (p : Pth) : Tr.get p .leaf = .bad := by cases p <;> rfl
theorem Tr.get_set_same : ∀ (p : Pth) (v : AV) (t : Tr), (Tr.set p v t).get p = v
  | .here, v, .leaf => rfl
  | .here, v, .node .. => rfl
  | .l p, v, .leaf => by simp only [Tr.set, Tr.mkl_eq, Tr.get]; exact get_set_same p v _
  | .l p, v, .node l _ _ => by simp only [Tr.set, Tr.mkl_eq, Tr.get]; exact get_set_same p v _
  | .r p, v, .leaf => by simp only [Tr.set, Tr.mkr_eq, Tr.get]; exact get_set_same p v _
  | .r p, v, .node .. => by simp only [Tr.set, Tr.mkr_eq, Tr.get]; exact get_set_same p v _
theorem Tr.get_set_other : ∀ (p q : Pth) (v : AV) (t : Tr), p ≠ q → (Tr.set q v t).get p = t.get p
  | .here, .here, _, _, h => absurd rfl h
  | .here, .l q, v, .leaf, _ => by simp [Tr.set, Tr.mkl_eq, Tr.get]
  | .here, .l q, v, .node .., _ => by simp [Tr.set, Tr.mkl_eq, Tr.get]
  | .here, .r q, v, .leaf, _ => by simp [Tr.set, Tr.mkr_eq, Tr.get]
  | .here, .r q, v, .node .., _ => by simp [Tr.set, Tr.mkr_eq, Tr.get]
  | .l p, .here, v, .leaf, _ => by simp [Tr.set, Tr.get, Tr.get_leaf]
  | .l p, .here, v, .node .., _ => by simp [Tr.set, Tr.get]
  | .r p, .here, v, .leaf, _ => by simp [Tr.set, Tr.get, Tr.get_leaf]
  | .r p, .here, v, .node .., _ => by simp [Tr.set, Tr.get]
  | .l p, .l q, v, .leaf, h => by
    simp only [Tr.set, Tr.mkl_eq, Tr.get]
    rw [get_set_other p q v _ (fun e => h (by rw [e])), Tr.get_leaf]
  | .l p, .l q, v, .node .., h => by
    simp only [Tr.set, Tr.mkl_eq, Tr.get]
    exact get_set_other p q v _ (fun e => h (by rw [e]))
  | .r p, .r q, v, .leaf, h => by
    simp only [Tr.set, Tr.mkr_eq, Tr.get]
    rw [get_set_other p q v _ (fun e => h (by rw [e])), Tr.get_leaf]
  | .r p, .r q, v, .node .., h => by
    simp only [Tr.set, Tr.mkr_eq, Tr.get]
    exact get_set_other p q v _ (fun e => h (by rw [e]))
  | .l p, .r q, v, .leaf, _ => by simp [Tr.set, Tr.mkr_eq, Tr.get, Tr.get_leaf]
  | .l p, .r q, v, .node .., _ => by simp [Tr.set, Tr.mkr_eq, Tr.get]
  | .r p, .l q, v, .leaf, _ => by simp [Tr.set, Tr.mkl_eq, Tr.get, Tr.get_leaf]
  | .r p, .l q, v, .node .., _ => by simp [Tr.set, Tr.mkl_eq, Tr.get]
theorem Tr.get_set (t u : Nat) (v : AV) (r : Tr) : (Tr.set (pth u) v r).get (pth t) = if t = u then v else r.get (pth t) := by
  by_cases h : t = u
  · subst h; simp [Tr.get_set_same]
  · rw [if_neg h]; exact Tr.get_set_other _ _ _ _ (fun e => h (pth_inj e))

-- the heap

theorem HT.get_leaf (n : Nat) : HT.get .leaf n = none := rfl
theorem HT.get_set : ∀ (f : Nat) (t : HT) (n m : Nat) (x : Option AObj), n < f → (HT.setN f t n x).get m = if m = n then x else t.get m
  | 0, _, n, _, _, h => by omega
  | f + 1, .leaf, 0, m, x, _ => by
    cases m with
    | zero => simp [HT.setN, HT.get]
    | succ m =>
      simp only [HT.setN, HT.get]
      have e : Nat.mod m 2 = m % 2 := rfl
      rcases Nat.mod_two_eq_zero_or_one m with h | h <;> simp [e, h]
  | f + 1, .node l v r, 0, m, x, _ => by
    cases m with
    | zero => simp [HT.setN, HT.get]
    | succ m => simp [HT.setN, HT.get]
  | f + 1, .leaf, n + 1, m, x, hn => by
    have e (k : Nat) : Nat.mod k 2 = k % 2 := rfl
    have e2 (k : Nat) : Nat.div k 2 = k / 2 := rfl
    have ih := fun j => get_set f .leaf (n / 2) j x (by omega)
    rcases Nat.mod_two_eq_zero_or_one n with h | h
    · simp only [HT.setN, e, h, e2]
      cases m with
      | zero => simp [HT.get]
      | succ m =>
        simp only [HT.get, e, e2]
        rcases Nat.mod_two_eq_zero_or_one m with g | g
        · simp only [g, ih, HT.get_leaf]
          have : (m / 2 = n / 2) ↔ (m + 1 = n + 1) := by omega
          simp only [this]
        · simp only [g, HT.get_leaf]
          rw [if_neg (by omega)]
    · simp only [HT.setN, e, h, e2]
      cases m with
      | zero => simp [HT.get]
      | succ m =>
        simp only [HT.get, e, e2]
        rcases Nat.mod_two_eq_zero_or_one m with g | g
        · simp only [g, HT.get_leaf]
          rw [if_neg (by omega)]
        · simp only [g, ih, HT.get_leaf]
          have : (m / 2 = n / 2) ↔ (m + 1 = n + 1) := by omega
          simp only [this]
  | f + 1, .node l v r, n + 1, m, x, hn => by
    have e (k : Nat) : Nat.mod k 2 = k % 2 := rfl
    have e2 (k : Nat) : Nat.div k 2 = k / 2 := rfl
    have ihl := fun j => get_set f l (n / 2) j x (by omega)
    have ihr := fun j => get_set f r (n / 2) j x (by omega)
    rcases Nat.mod_two_eq_zero_or_one n with h | h
    · simp only [HT.setN, e, h, e2]
      cases m with
      | zero => simp [HT.get]
      | succ m =>
        simp only [HT.get, e, e2]
        rcases Nat.mod_two_eq_zero_or_one m with g | g
        · simp only [g, ihl]
          have : (m / 2 = n / 2) ↔ (m + 1 = n + 1) := by omega
          simp only [this]
        · simp only [g]
          rw [if_neg (by omega)]
    · simp only [HT.setN, e, h, e2]
      cases m with
      | zero => simp [HT.get]
      | succ m =>
        simp only [HT.get, e, e2]
        rcases Nat.mod_two_eq_zero_or_one m with g | g
        · simp only [g]
          rw [if_neg (by omega)]
        · simp only [g, ihr]
          have : (m / 2 = n / 2) ↔ (m + 1 = n + 1) := by omega
          simp only [this]
theorem AHeap.get_set (h : AHeap) (b c : Nat) (o : Option AObj) : (h.set b o).get c = if c = b then o else h.get c :=
  HT.get_set _ _ _ _ _ (Nat.lt_succ_self b)
theorem AHeap.get_push (h : AHeap) (c : Nat) (o : AObj) : (h.push o).get c = if c = h.n then some o else h.get c :=
  HT.get_set _ _ _ _ _ (Nat.lt_succ_self _)
@[simp] theorem AHeap.n_set (h : AHeap) (b : Nat) (o : Option AObj) : (h.set b o).n = h.n := rfl
@[simp] theorem AHeap.n_push (h : AHeap) (o : AObj) : (h.push o).n = h.n + 1 := rfl

-- images

structure Img where
  blk : Nat
  base : Nat
  size : Nat
abbrev Mu := Nat → Option Img
def Le (μ μ' : Mu) : Prop := ∀ b i, μ b = some i → μ' b = some i
theorem Le.refl (μ : Mu) : Le μ μ := fun _ _ h => h
theorem Le.trans {μ μ' μ'' : Mu} (h : Le μ μ') (h' : Le μ' μ'') : Le μ μ'' := fun b i e => h' b i (h b i e)

def CapRel (i : Img) (off len : Nat) : Cap → Value → Prop
  | .exact c, v => v = .slice (some ⟨i.blk, i.base + off, none⟩) len c
  | .opn esz, v => ∃ c, v = .slice (some ⟨i.blk, i.base + off, none⟩) len c ∧ len ≤ c ∧ off + c * esz = i.size
  | .dead, v => len = 0 ∧ ∃ a c, v = .slice (some a) 0 c

mutual
def VRel (μ : Mu) : AV → Value → Prop
  | .bad, _ => True
  | .bool b, v => v = .bool b
  | .int k n, v => v = .int k n
  | .str s, v => ∃ t, v = .string t ∧ t.data.toList = s
  | .nilP, v => v = .pointer none
  | .ptr b off, v => ∃ i, μ b = some i ∧ v = .pointer (some ⟨i.blk, i.base + off, none⟩)
  | .nilS, v => v = .slice none 0 0
  | .slice b off len cap, v => ∃ i, μ b = some i ∧ CapRel i off len cap v
  | .nilM, v => v = .map none
  | .map r, v => ∃ i, μ r = some i ∧ v = .map (some i.blk)
  | .nilF, v => v = .nilFunc
  | .fn f first caps, v => ∃ fs cs, v = .func (.func f) ⟨fs⟩ ⟨cs⟩ ∧ VRels μ first fs ∧ VRels μ caps cs
  | .yld l, v => ∃ i, μ l = some i ∧ v = .func (.yield i.blk) ⟨[]⟩ ⟨[]⟩
  | .nilI, v => v = .nilIface
  | .iface t x, v => ∃ y, v = .iface t y ∧ VRel μ x y
  | .agg cs, v => ∃ l, v = .agg ⟨l⟩ ∧ VRels μ cs l
  | .tup vs, v => ∃ l, v = .tuple ⟨l⟩ ∧ VRels μ vs l
def VRels (μ : Mu) : List AV → List Value → Prop
  | [], l => l = []
  | a :: as, l => ∃ v vs, l = v :: vs ∧ VRel μ a v ∧ VRels μ as vs
end

mutual
theorem VRel.mono {μ μ' : Mu} (hle : Le μ μ') : ∀ (a : AV) (v : Value), VRel μ a v → VRel μ' a v
  | .bad, _, _ => trivial
  | .bool _, _, h => h
  | .int _ _, _, h => h
  | .str _, _, h => h
  | .nilP, _, h => h
  | .ptr b off, _, ⟨i, h, e⟩ => ⟨i, hle _ _ h, e⟩
  | .nilS, _, h => h
  | .slice b off len cap, _, ⟨i, h, e⟩ => ⟨i, hle _ _ h, e⟩
  | .nilM, _, h => h
  | .map r, _, ⟨i, h, e⟩ => ⟨i, hle _ _ h, e⟩
  | .nilF, _, h => h
  | .fn f first caps, _, ⟨fs, cs, e, h1, h2⟩ => ⟨fs, cs, e, VRels.mono hle _ _ h1, VRels.mono hle _ _ h2⟩
  | .yld l, _, ⟨i, h, e⟩ => ⟨i, hle _ _ h, e⟩
  | .nilI, _, h => h
  | .iface t x, _, ⟨y, e, h⟩ => ⟨y, e, VRel.mono hle _ _ h⟩
  | .agg cs, _, ⟨l, e, h⟩ => ⟨l, e, VRels.mono hle _ _ h⟩
  | .tup cs, _, ⟨l, e, h⟩ => ⟨l, e, VRels.mono hle _ _ h⟩
theorem VRels.mono {μ μ' : Mu} (hle : Le μ μ') : ∀ (as : List AV) (vs : List Value), VRels μ as vs → VRels μ' as vs
  | [], _, h => h
  | a :: as, _, ⟨v, vs, e, h1, h2⟩ => ⟨v, vs, e, VRel.mono hle _ _ h1, VRels.mono hle _ _ h2⟩
end

mutual
theorem absV_rel (μ : Mu) : ∀ v : Value, VRel μ (absV v) v
  | .bool b => rfl
  | .int k n => rfl
  | .string s => ⟨s, rfl, rfl⟩
  | .pointer none => rfl
  | .pointer (some _) => trivial
  | .slice none 0 0 => rfl
  | .slice none 0 (_ + 1) => trivial
  | .slice none (_ + 1) _ => trivial
  | .slice (some _) _ _ => trivial
  | .map none => rfl
  | .map (some _) => trivial
  | .nilFunc => rfl
  | .nilIface => rfl
  | .agg ⟨cs⟩ => ⟨cs, rfl, absVs_rel μ cs⟩
  | .tuple ⟨cs⟩ => ⟨cs, rfl, absVs_rel μ cs⟩
  | .float _ _ => trivial
  | .complex _ _ _ => trivial
  | .chan _ => trivial
  | .func _ _ _ => trivial
  | .iface _ _ => trivial
theorem absVs_rel (μ : Mu) : ∀ vs : List Value, VRels μ (absVs vs) vs
  | [] => rfl
  | v :: vs => ⟨v, vs, rfl, absV_rel μ v, absVs_rel μ vs⟩
end

theorem VRels.length {μ : Mu} : ∀ {as : List AV} {vs : List Value}, VRels μ as vs → as.length = vs.length
  | [], _, h => by cases h; rfl
  | a :: as, _, ⟨v, vs, e, _, h2⟩ => by subst e; simp [VRels.length h2]
theorem VRels.append {μ : Mu} : ∀ {as bs : List AV} {vs us : List Value}, VRels μ as vs → VRels μ bs us → VRels μ (as ++ bs) (vs ++ us)
  | [], _, _, _, h, h' => by cases h; exact h'
  | a :: as, _, _, _, ⟨v, vs, e, h1, h2⟩, h' => by subst e; exact ⟨v, vs ++ _, rfl, h1, VRels.append h2 h'⟩
theorem VRels.get {μ : Mu} : ∀ {as : List AV} {vs : List Value} (_ : VRels μ as vs) {j : Nat} {a : AV}, as[j]? = some a → ∃ v, vs[j]? = some v ∧ VRel μ a v
  | [], _, _, j, a, h => by simp at h
  | x :: as, _, ⟨v, vs, e, h1, h2⟩, 0, a, h => by
    subst e; simp at h; subst h; exact ⟨v, rfl, h1⟩
  | x :: as, _, ⟨v, vs, e, h1, h2⟩, j + 1, a, h => by
    subst e; simp at h; simpa using VRels.get h2 h
theorem VRels.of_get {μ : Mu} : ∀ {as : List AV} {vs : List Value}, as.length = vs.length → (∀ (j : Nat) (a : AV), as[j]? = some a → ∃ v, vs[j]? = some v ∧ VRel μ a v) → VRels μ as vs
  | [], [], _, _ => rfl
  | [], _ :: _, h, _ => by simp at h
  | _ :: _, [], h, _ => by simp at h
  | a :: as, v :: vs, h, hh => by
    refine ⟨v, vs, rfl, ?_, VRels.of_get (by simpa using h) fun j x hx => ?_⟩
    · obtain ⟨u, hu, r⟩ := hh 0 a rfl
      simp at hu; subst hu; exact r
    · simpa using hh (j + 1) x (by simpa using hx)
theorem VRels.map {μ : Mu} {ι : Type} (g : ι → AV) (ρ : ι → Value) (h : ∀ x, VRel μ (g x) (ρ x)) : ∀ l : List ι, VRels μ (l.map g) (l.map ρ)
  | [] => rfl
  | x :: l => ⟨_, _, rfl, h x, VRels.map g ρ h l⟩

theorem VRel.cells {μ : Mu} {a : AV} {v : Value} (h : VRel μ a v) (hb : a ≠ .bad) : VRels μ a.cells v.cells.toList := by
  cases a with
  | bad => exact absurd rfl hb
  | agg cs => obtain ⟨l, rfl, hl⟩ := h; exact hl
  | tup vs => obtain ⟨l, rfl, hl⟩ := h; exact ⟨_, _, rfl, ⟨l, rfl, hl⟩, rfl⟩
  | bool b => cases h; exact ⟨_, _, rfl, rfl, rfl⟩
  | int k n => cases h; exact ⟨_, _, rfl, rfl, rfl⟩
  | str s => obtain ⟨t, rfl, e⟩ := h; exact ⟨_, _, rfl, ⟨t, rfl, e⟩, rfl⟩
  | nilP => cases h; exact ⟨_, _, rfl, rfl, rfl⟩
  | ptr b off => obtain ⟨i, e, rfl⟩ := h; exact ⟨_, _, rfl, ⟨i, e, rfl⟩, rfl⟩
  | nilS => cases h; exact ⟨_, _, rfl, rfl, rfl⟩
  | slice b off len cap =>
    obtain ⟨i, e, hc⟩ := h
    have : v.cells = #[v] := by
      cases cap with
      | exact c => cases hc; rfl
      | opn esz => obtain ⟨c, rfl, _⟩ := hc; rfl
      | dead => obtain ⟨_, a, c, rfl⟩ := hc; rfl
    rw [this]; exact ⟨_, _, rfl, ⟨i, e, hc⟩, rfl⟩
  | nilM => cases h; exact ⟨_, _, rfl, rfl, rfl⟩
  | map r => obtain ⟨i, e, rfl⟩ := h; exact ⟨_, _, rfl, ⟨i, e, rfl⟩, rfl⟩
  | nilF => cases h; exact ⟨_, _, rfl, rfl, rfl⟩
  | fn f a b => obtain ⟨fs, cs, rfl, h1, h2⟩ := h; exact ⟨_, _, rfl, ⟨fs, cs, rfl, h1, h2⟩, rfl⟩
  | yld l => obtain ⟨i, e, rfl⟩ := h; exact ⟨_, _, rfl, ⟨i, e, rfl⟩, rfl⟩
  | nilI => cases h; exact ⟨_, _, rfl, rfl, rfl⟩
  | iface t x => obtain ⟨y, rfl, hy⟩ := h; exact ⟨_, _, rfl, ⟨y, rfl, hy⟩, rfl⟩
theorem VRel.oneCell {μ : Mu} {a : AV} {v : Value} (h : VRel μ a v) (hc : a.isCell = true) : v.oneCell' = true := by
  cases a with
  | bad => simp [AV.isCell] at hc
  | agg cs => simp [AV.isCell] at hc
  | tup vs => simp [AV.isCell] at hc
  | bool b => cases h; rfl
  | int k n => cases h; rfl
  | str s => obtain ⟨t, rfl, e⟩ := h; rfl
  | nilP => cases h; rfl
  | ptr b off => obtain ⟨i, e, rfl⟩ := h; rfl
  | nilS => cases h; rfl
  | slice b off len cap =>
    obtain ⟨i, e, hc⟩ := h
    cases cap with
    | exact c => cases hc; rfl
    | opn esz => obtain ⟨c, rfl, _⟩ := hc; rfl
    | dead => obtain ⟨_, a, c, rfl⟩ := hc; rfl
  | nilM => cases h; rfl
  | map r => obtain ⟨i, e, rfl⟩ := h; rfl
  | nilF => cases h; rfl
  | fn f a b => obtain ⟨fs, cs, rfl, h1, h2⟩ := h; rfl
  | yld l => obtain ⟨i, e, rfl⟩ := h; rfl
  | nilI => cases h; rfl
  | iface t x => obtain ⟨y, rfl, hy⟩ := h; rfl

-- what lies in memory

/-- The registers that are read outside the region that writes them. -/
def RegsRel (need : Nat) (μ : Mu) (r : Tr) (tm : Array Value) : Prop := ∀ t, Nat.testBit need t = true → VRel μ (r.get (pth t)) (tm.getD t undef)
theorem RegsRel.mono {need : Nat} {μ μ' : Mu} {r : Tr} {tm : Array Value} (hle : Le μ μ') (h : RegsRel need μ r tm) : RegsRel need μ' r tm := fun t ht => (h t ht).mono hle

inductive DRel (μ : Mu) : ADef → Deferred → Prop where
  | call (f : Nat) (args : List AV) (cap vs : List Value) (h : VRels μ args (vs ++ cap)) : DRel μ (.call f args) { target := .fn (.func f) ⟨cap⟩, args := ⟨vs⟩ }
  | collected (r : Nat) (i : Img) (h : μ r = some i) : DRel μ (.collected r) { target := .collected i.blk, args := #[] }
theorem DRel.mono {μ μ' : Mu} (hle : Le μ μ') {a : ADef} {d : Deferred} (h : DRel μ a d) : DRel μ' a d := by
  cases h with
  | call f args cap vs h => exact .call f args cap vs (h.mono hle)
  | collected r i h => exact .collected r i (hle _ _ h)
def DRels (μ : Mu) : List ADef → List Deferred → Prop
  | [], l => l = []
  | a :: as, l => ∃ d ds, l = d :: ds ∧ DRel μ a d ∧ DRels μ as ds
theorem DRels.mono {μ μ' : Mu} (hle : Le μ μ') : ∀ {as : List ADef} {ds : List Deferred}, DRels μ as ds → DRels μ' as ds
  | [], _, h => h
  | _ :: _, _, ⟨d, ds, e, h1, h2⟩ => ⟨d, ds, e, h1.mono hle, DRels.mono hle h2⟩
theorem DRels.append {μ : Mu} : ∀ {as bs : List ADef} {ds es : List Deferred}, DRels μ as ds → DRels μ bs es → DRels μ (as ++ bs) (ds ++ es)
  | [], _, _, _, h, h' => by cases h; exact h'
  | _ :: _, _, _, _, ⟨d, ds, e, h1, h2⟩, h' => by subst e; exact ⟨d, ds ++ _, rfl, h1, DRels.append h2 h'⟩

def EntRel (μ : Mu) (e : AEnt) (m : MapEntry) : Prop := VRel μ e.key m.key ∧ VRel μ e.val m.val ∧ e.born = m.born
def EntsRel (μ : Mu) : List AEnt → List MapEntry → Prop
  | [], l => l = []
  | e :: es, l => ∃ m ms, l = m :: ms ∧ EntRel μ e m ∧ EntsRel μ es ms
theorem EntRel.mono {μ μ' : Mu} (hle : Le μ μ') {e : AEnt} {m : MapEntry} (h : EntRel μ e m) : EntRel μ' e m := ⟨h.1.mono hle, h.2.1.mono hle, h.2.2⟩
theorem EntsRel.mono {μ μ' : Mu} (hle : Le μ μ') : ∀ {es : List AEnt} {ms : List MapEntry}, EntsRel μ es ms → EntsRel μ' es ms
  | [], _, h => h
  | _ :: _, _, ⟨m, ms, e, h1, h2⟩ => ⟨m, ms, e, h1.mono hle, EntsRel.mono hle h2⟩

def CellsRel (μ : Mu) (cs : List AV) (c : Array Value) (base : Nat) : Prop := ∀ (j : Nat) (v : AV), cs[j]? = some v → ∃ u, c[base + j]? = some u ∧ VRel μ v u
def KRel (k : BK) (cs : List AV) (i : Img) (lo hi flo fhi : Nat) : Prop := match k with
  | .own => i.base = 0 ∧ i.size = cs.length ∧ flo = lo ∧ fhi = hi
  | .opn => cs.length ≤ i.size ∧ ∀ j, j < i.size → flo ≤ i.base + j → i.base + j < fhi → lo ≤ j ∧ j < hi
  | .ro => True
  | .fz => True
def ORel (μ : Mu) (o : AObj) (i : Img) (w : World) : Prop := match o with
  | .cells cs el k lo hi => ∃ c flo fhi, w.heap[i.blk]? = some (.cells c el (flo, fhi)) ∧ CellsRel μ cs c i.base ∧ i.base + i.size = c.size ∧ KRel k cs i lo hi flo fhi
  | .map es clock => ∃ ents, w.heap[i.blk]? = some (.map ⟨ents⟩ clock) ∧ EntsRel μ es ents
  | .strIter s pos => i.base = 0 ∧ ∃ full, w.heap[i.blk]? = some (.stringIter full pos) ∧ full.data.toList.drop pos = s
  | .mapIter none since seen last => i.base = 0 ∧ w.heap[i.blk]? = some (.mapIter none since ⟨seen⟩ last)
  | .mapIter (some m) since seen last => i.base = 0 ∧ ∃ j, μ m = some j ∧ w.heap[i.blk]? = some (.mapIter (some j.blk) since ⟨seen⟩ last)
  | .loop st pend need regs params as bd df => ∃ tm dj fn, μ df = some dj ∧ w.heap[i.blk]? = some (.loop { state := st, pending := pend, fn := fn, tmps := tm, params := ⟨params⟩, assign := as, body := bd, defers := dj.blk }) ∧ RegsRel need μ regs tm ∧ okCode tm.size as = true ∧ okCode tm.size bd = true ∧ ∀ t ∈ params, t < tm.size
  | .defrd none => w.heap[i.blk]? = some (.deferred none)
  | .defrd (some ds) => ∃ l, w.heap[i.blk]? = some (.deferred (some l)) ∧ DRels μ ds l
  | .raw o => i.base = 0 ∧ w.heap[i.blk]? = some o

theorem ORel.mono {μ μ' : Mu} (hle : Le μ μ') {o : AObj} {i : Img} {w w' : World} (hw : w'.heap[i.blk]? = w.heap[i.blk]?) (h : ORel μ o i w) : ORel μ' o i w' := by
  cases o with
  | cells cs el k lo hi =>
    obtain ⟨c, flo, fhi, h1, h2, h3⟩ := h
    exact ⟨c, flo, fhi, hw.trans h1, fun j v e => let ⟨u, hu, r⟩ := h2 j v e; ⟨u, hu, r.mono hle⟩, h3⟩
  | map es clock => obtain ⟨ents, h1, h2⟩ := h; exact ⟨ents, hw.trans h1, h2.mono hle⟩
  | strIter s pos => obtain ⟨h0, full, h1, h2⟩ := h; exact ⟨h0, full, hw.trans h1, h2⟩
  | mapIter m since seen last =>
    cases m with
    | none => exact ⟨h.1, hw.trans h.2⟩
    | some m => obtain ⟨h0, j, h1, h2⟩ := h; exact ⟨h0, j, hle _ _ h1, hw.trans h2⟩
  | loop st pend fn regs params as bd df => obtain ⟨tm, dj, fn', h1, h2, h3, h4⟩ := h; exact ⟨tm, dj, fn', hle _ _ h1, hw.trans h2, h3.mono hle, h4⟩
  | defrd calls =>
    cases calls with
    | none => exact hw.trans h
    | some ds => obtain ⟨l, h1, h2⟩ := h; exact ⟨l, hw.trans h1, h2.mono hle⟩
  | raw o => exact ⟨h.1, hw.trans h.2⟩

def AObj.isRo : AObj → Bool
  | .cells _ _ .ro _ _ => true
  | .raw _ => true
  | _ => false

structure HRel (μ : Mu) (H : AHeap) (w : World) : Prop where
  rel : ∀ b o i, H.get b = some o → μ b = some i → ORel μ o i w
  inj : ∀ b c i j, H.get b ≠ none → (∃ o, H.get c = some o ∧ o.isRo = false) → μ b = some i → μ c = some j → i.blk = j.blk → b = c
  lt : ∀ b i, μ b = some i → b < H.n ∧ i.blk < w.heap.size
  bound : ∀ b, H.n ≤ b → H.get b = none

/-- What a piece of a run does to memory beside what the evaluator says. -/
structure Adv (μ : Mu) (H : AHeap) (w : World) (μ' : Mu) (H' : AHeap) (w' : World) : Prop where
  le : Le μ μ'
  size : w.heap.size ≤ w'.heap.size
  n : H.n ≤ H'.n
  live : ∀ b, b < H.n → H'.get b ≠ none → H.get b ≠ none
  idle : ∀ b, b < H.n → μ b = none → H'.get b = H.get b
  old : ∀ r, r < w.heap.size → (∀ b i, H.get b ≠ none → μ b = some i → i.blk ≠ r) → w'.heap[r]? = w.heap[r]?
  new : ∀ b i, μ b = none → μ' b = some i → H.n ≤ b ∧ (w.heap.size ≤ i.blk ∨ ∃ c o j, H.get c = some o ∧ o.isRo = false ∧ μ c = some j ∧ j.blk = i.blk)
  ro : ∀ b o i, H.get b = some o → o.isRo = true → μ b = some i → H'.get b = some o ∧ w'.heap[i.blk]? = w.heap[i.blk]?
  os : w'.os = w.os
  out : w'.output = w.output
  tape : w'.tape = w.tape
  drawn : w.drawn ≤ w'.drawn

theorem Adv.refl (μ : Mu) (H : AHeap) (w : World) : Adv μ H w μ H w where
  le := Le.refl μ
  size := Nat.le_refl _
  n := Nat.le_refl _
  live := fun _ _ h => h
  idle := fun _ _ _ => rfl
  old := fun _ _ _ => rfl
  new := fun b i h h' => by rw [h] at h'; cases h'
  ro := fun _ _ _ h _ _ => ⟨h, rfl⟩
  os := rfl
  out := rfl
  tape := rfl
  drawn := Nat.le_refl _

theorem Adv.trans {μ μ1 μ2 : Mu} {H H1 H2 : AHeap} {w w1 w2 : World} (hh : HRel μ H w) (hh1 : HRel μ1 H1 w1) (h : Adv μ H w μ1 H1 w1) (h' : Adv μ1 H1 w1 μ2 H2 w2) : Adv μ H w μ2 H2 w2 where
  le := h.le.trans h'.le
  size := Nat.le_trans h.size h'.size
  n := Nat.le_trans h.n h'.n
  live := fun b hb hl => h.live b hb (h'.live b (Nat.lt_of_lt_of_le hb h.n) hl)
  idle := fun b hb hm => by
    rw [← h.idle b hb hm]
    refine h'.idle b (Nat.lt_of_lt_of_le hb h.n) ?_
    cases h1 : μ1 b with
    | none => rfl
    | some i => exact absurd (h.new b i hm h1).1 (Nat.not_le.2 hb)
  old := fun r hr hn => by
    rw [h'.old r (Nat.lt_of_lt_of_le hr h.size), h.old r hr hn]
    intro b i hl hm he
    cases hμ : μ b with
    | some j =>
      have := h.le b j hμ
      rw [hm] at this; cases this
      exact hn b i (h.live b (hh.lt b i hμ).1 hl) hμ he
    | none =>
      obtain ⟨_, hi | ⟨c, o, j, hc, _, hj, hji⟩⟩ := h.new b i hμ hm
      · omega
      · exact hn c j (by rw [hc]; simp) hj (hji.trans he)
  new := fun b i hb hb2 => by
    cases h1 : μ1 b with
    | some j =>
      have := h'.le b j h1
      rw [hb2] at this; cases this
      exact h.new b i hb h1
    | none =>
      obtain ⟨hn, hi | ⟨c, o, j, hc, hro, hj, hji⟩⟩ := h'.new b i h1 hb2
      · exact ⟨Nat.le_trans h.n hn, .inl (Nat.le_trans h.size hi)⟩
      · refine ⟨Nat.le_trans h.n hn, ?_⟩
        cases h0 : μ c with
        | some j' =>
          have := h.le c j' h0
          rw [hj] at this; cases this
          have hlive : H.get c ≠ none := h.live c (hh.lt c j h0).1 (by rw [hc]; simp)
          cases hg : H.get c with
          | none => exact absurd hg hlive
          | some o0 =>
            cases hr0 : o0.isRo with
            | false => exact .inr ⟨c, o0, j, hg, hr0, h0, hji⟩
            | true =>
              have := (h.ro c o0 j hg hr0 h0).1
              rw [hc] at this; cases this
              rw [hro] at hr0; cases hr0
        | none =>
          obtain ⟨_, hi | ⟨c', o', j', hc', hro', hj', hji'⟩⟩ := h.new c j h0 hj
          · exact .inl (hji ▸ hi)
          · exact .inr ⟨c', o', j', hc', hro', hj', hji'.trans hji⟩
  ro := fun b o i hb hr hi => by
    obtain ⟨h1, h2⟩ := h.ro b o i hb hr hi
    obtain ⟨h3, h4⟩ := h'.ro b o i h1 hr (h.le b i hi)
    exact ⟨h3, h4.trans h2⟩
  os := h'.os.trans h.os
  out := h'.out.trans h.out
  tape := h'.tape.trans h.tape
  drawn := Nat.le_trans h.drawn h'.drawn

theorem HRel.of_heap {μ : Mu} {H : AHeap} {w w' : World} (h : HRel μ H w) (he : w'.heap = w.heap) : HRel μ H w' where
  rel := fun b o i hb hi => (h.rel b o i hb hi).mono (Le.refl μ) (by rw [he])
  inj := h.inj
  lt := fun b i hi => by rw [he]; exact h.lt b i hi
  bound := h.bound
theorem Adv.of_heap {μ : Mu} {H : AHeap} {w w' : World} (he : w'.heap = w.heap) (ho : w'.os = w.os) (hp : w'.output = w.output) (ht : w'.tape = w.tape) (hd : w.drawn ≤ w'.drawn := by first | exact Nat.le_refl _ | exact Nat.le_succ _ | assumption) : Adv μ H w μ H w' where
  le := Le.refl μ
  size := by rw [he]; exact Nat.le_refl _
  n := Nat.le_refl _
  live := fun _ _ h => h
  idle := fun _ _ _ => rfl
  old := fun _ _ _ => by rw [he]
  new := fun b i h h' => by rw [h] at h'; cases h'
  ro := fun _ _ _ h _ _ => ⟨h, by rw [he]⟩
  os := ho
  out := hp
  tape := ht
  drawn := hd

def upd (μ : Mu) (b : Nat) (i : Img) : Mu := fun c => if c = b then some i else μ c
theorem upd_same (μ : Mu) (b : Nat) (i : Img) : upd μ b i b = some i := by simp [upd]
theorem upd_other (μ : Mu) {b c : Nat} (i : Img) (h : c ≠ b) : upd μ b i c = μ c := by simp [upd, h]
theorem HRel.fresh {μ : Mu} {H : AHeap} {w : World} (h : HRel μ H w) : μ H.n = none := by
  cases e : μ H.n with
  | none => rfl
  | some i => exact absurd (h.lt _ _ e).1 (Nat.lt_irrefl _)
theorem HRel.le_upd {μ : Mu} {H : AHeap} {w : World} (h : HRel μ H w) (i : Img) : Le μ (upd μ H.n i) := fun b j e => by
  rw [upd_other]; exact e
  intro hb; subst hb; rw [h.fresh] at e; cases e

/-- A new block. -/
theorem HRel.alloc {μ : Mu} {H : AHeap} {w : World} (h : HRel μ H w) (o : AObj) (x : Obj) (sz : Nat)
    (hr : ORel (upd μ H.n ⟨w.heap.size, 0, sz⟩) o ⟨w.heap.size, 0, sz⟩ (w.alloc x)) :
    HRel (upd μ H.n ⟨w.heap.size, 0, sz⟩) (H.push o) (w.alloc x) ∧ Adv μ H w (upd μ H.n ⟨w.heap.size, 0, sz⟩) (H.push o) (w.alloc x) := by
  have hle := h.le_upd ⟨w.heap.size, 0, sz⟩
  have hold : ∀ r, r < w.heap.size → (w.alloc x).heap[r]? = w.heap[r]? := fun r hr => by
    simp only [World.alloc, Array.getElem?_push]; rw [if_neg (by omega)]
  constructor
  · refine ⟨fun b ob i hb hi => ?_, fun b c i j hb hc hi hj e => ?_, fun b i hi => ?_, fun b hb => ?_⟩
    · rw [AHeap.get_push] at hb
      by_cases e : b = H.n
      · rw [if_pos e] at hb; subst e; cases hb
        rw [upd_same] at hi; cases hi
        exact hr
      · rw [if_neg e] at hb; rw [upd_other _ _ e] at hi
        exact (h.rel b ob i hb hi).mono hle (hold _ (h.lt b i hi).2)
    · by_cases e1 : b = H.n
      · by_cases e2 : c = H.n
        · rw [e1, e2]
        · subst e1; rw [upd_same] at hi; cases hi
          rw [upd_other _ _ e2] at hj
          have := (h.lt c j hj).2
          simp only at e; omega
      · by_cases e2 : c = H.n
        · subst e2; rw [upd_same] at hj; cases hj
          rw [upd_other _ _ e1] at hi
          have := (h.lt b i hi).2
          simp only at e; omega
        · rw [upd_other _ _ e1] at hi; rw [upd_other _ _ e2] at hj
          rw [AHeap.get_push, if_neg e1] at hb
          rw [AHeap.get_push, if_neg e2] at hc
          exact h.inj b c i j hb hc hi hj e
    · by_cases e : b = H.n
      · subst e; rw [upd_same] at hi; cases hi; simp
      · rw [upd_other _ _ e] at hi
        have := h.lt b i hi
        simp only [AHeap.n_push, World.size_alloc]; omega
    · simp only [AHeap.n_push] at hb
      rw [AHeap.get_push, if_neg (by omega)]; exact h.bound b (by omega)
  · refine ⟨hle, by simp, by simp, fun b hb hl => ?_, fun b hb _ => (by rw [AHeap.get_push, if_neg (by omega)]), fun r hr _ => hold r hr, fun b i hb hb2 => ?_, fun b ob i hb _ hi => ?_, rfl, rfl, rfl, Nat.le_refl _⟩
    · rw [AHeap.get_push, if_neg (by omega)] at hl; exact hl
    · by_cases e : b = H.n
      · subst e; rw [upd_same] at hb2; cases hb2; exact ⟨Nat.le_refl _, .inl (Nat.le_refl _)⟩
      · rw [upd_other _ _ e, hb] at hb2; cases hb2
    · have := h.lt b i hi
      rw [AHeap.get_push, if_neg (by omega)]
      exact ⟨hb, hold _ this.2⟩

/-- A block is written. -/
theorem HRel.update {μ : Mu} {H : AHeap} {w w' : World} (h : HRel μ H w) {b : Nat} {o o' : AObj} {i : Img} (hb : H.get b = some o) (hro : o.isRo = false) (hi : μ b = some i)
    (hs : w'.heap.size = w.heap.size) (ho : ∀ r, r ≠ i.blk → w'.heap[r]? = w.heap[r]?) (hos : w'.os = w.os) (hout : w'.output = w.output) (htape : w'.tape = w.tape) (hr : ORel μ o' i w') (hdr : w.drawn ≤ w'.drawn := by first | exact Nat.le_refl _ | assumption) :
    HRel μ (H.set b (some o')) w' ∧ Adv μ H w μ (H.set b (some o')) w' := by
  have hlive : H.get b ≠ none := by rw [hb]; simp
  have hlv : ∀ c, (H.set b (some o')).get c ≠ none → H.get c ≠ none := fun c hc => by
    rw [AHeap.get_set] at hc
    by_cases e : c = b
    · subst e; exact hlive
    · rw [if_neg e] at hc; exact hc
  constructor
  · refine ⟨fun c oc j hc hj => ?_, fun c d j k hc hd => h.inj c d j k (hlv c hc) (by
      obtain ⟨x, hx, hxr⟩ := hd
      rw [AHeap.get_set] at hx
      by_cases e : d = b
      · subst e; exact ⟨o, hb, hro⟩
      · rw [if_neg e] at hx; exact ⟨x, hx, hxr⟩), fun c j hj => by rw [hs]; exact h.lt c j hj, fun c hc => ?_⟩
    · rw [AHeap.get_set] at hc
      by_cases e : c = b
      · subst e; rw [if_pos rfl] at hc; cases hc
        rw [hi] at hj; cases hj; exact hr
      · rw [if_neg e] at hc
        refine (h.rel c oc j hc hj).mono (Le.refl μ) (ho _ fun e' => e (h.inj c b j i (by rw [hc]; simp) ⟨o, hb, hro⟩ hj hi e'))
    · rw [AHeap.get_set, if_neg]
      · exact h.bound c hc
      · intro e; subst e; have := (h.lt c i hi).1; simp at hc; omega
  · refine ⟨Le.refl μ, by omega, by simp, fun c _ hc => hlv c hc, fun c _ hm => (by rw [AHeap.get_set, if_neg]; intro e; subst e; rw [hi] at hm; cases hm), fun r hr hn => ho r fun e => hn b i hlive hi e.symm, fun c j h1 h2 => (by rw [h1] at h2; cases h2), fun c oc j hc hrc hj => ?_, hos, hout, htape, hdr⟩
    have hne : c ≠ b := by intro e; subst e; rw [hb] at hc; cases hc; rw [hro] at hrc; cases hrc
    refine ⟨by rw [AHeap.get_set, if_neg hne]; exact hc, ho _ fun e => hne (h.inj c b j i (by rw [hc]; simp) ⟨o, hb, hro⟩ hj hi e)⟩
end AEv

/-
  THE ABSTRACT EVALUATOR: memory and the simple operations: what the model does is what the evaluator says.
-/
namespace AEv
open Go

theorem add_plain (b o n : Nat) : (⟨b, o, none⟩ : Addr).add n = ⟨b, o + n, none⟩ := by
  unfold Addr.add
  by_cases h : n = 0
  · simp [h]
  · simp [h]

theorem nth_eq {α : Type} : ∀ (n : Nat) (l : List α), nth n l = l[n]?
  | 0, [] => rfl
  | _ + 1, [] => rfl
  | 0, _ :: _ => rfl
  | n + 1, _ :: l => by simpa [nth] using nth_eq n l
theorem dropN_eq {α : Type} : ∀ (n : Nat) (l : List α), dropN n l = l.drop n
  | 0, l => by simp [dropN]
  | _ + 1, [] => by simp [dropN]
  | n + 1, _ :: l => by simpa [dropN] using dropN_eq n l
theorem takeN_eq : ∀ (n : Nat) (l r : List AV), takeN n l = some r → n ≤ l.length ∧ r = l.take n
  | 0, l, r, h => by simp [takeN] at h; subst h; simp
  | _ + 1, [], r, h => by simp [takeN] at h
  | n + 1, a :: l, r, h => by
    simp only [takeN] at h
    cases e : takeN n l with
    | none => simp [e] at h
    | some r' =>
      simp [e] at h; subst h
      obtain ⟨h1, h2⟩ := takeN_eq n l r' e
      simp [h2]; omega
theorem putCells_spec : ∀ (n : Nat) (vs cs r : List AV), putCells n vs cs = some r →
    r.length = cs.length ∧ (vs ≠ [] → n + vs.length ≤ cs.length) ∧ (∀ v ∈ vs, v.isCell = true) ∧ ∀ j, r[j]? = if n ≤ j ∧ j < n + vs.length then vs[j - n]? else cs[j]?
  | 0, [], cs, r, h => by
    simp [putCells] at h; subst h
    refine ⟨rfl, fun h => absurd rfl h, fun v hv => (by cases hv), fun j => by rw [if_neg (by simp)]⟩
  | 0, _ :: _, [], r, h => by simp [putCells] at h
  | 0, v :: vs, c :: cs, r, h => by
    simp only [putCells] at h
    cases hc : v.isCell with
    | false => simp [hc] at h
    | true =>
      simp only [hc] at h
      cases e : putCells 0 vs cs with
      | none => simp [e] at h
      | some r' =>
        simp [e] at h; subst h
        obtain ⟨h1, h2, h3, h4⟩ := putCells_spec 0 vs cs r' e
        refine ⟨by simp [h1], fun _ => ?_, fun x hx => ?_, fun j => ?_⟩
        · cases vs with
          | nil => simp
          | cons a l => have := h2 (by simp); simp at this ⊢; omega
        · cases hx with
          | head => exact hc
          | tail _ hx => exact h3 x hx
        · cases j with
          | zero => simp
          | succ j => simpa using h4 j
  | n + 1, [], cs, r, h => by
    simp [putCells] at h; subst h
    refine ⟨rfl, fun h => absurd rfl h, fun v hv => (by cases hv), fun j => by rw [if_neg (by simp)]⟩
  | n + 1, _ :: _, [], r, h => by simp [putCells] at h
  | n + 1, v :: vs, c :: cs, r, h => by
    simp only [putCells] at h
    cases e : putCells n (v :: vs) cs with
    | none => simp [e] at h
    | some r' =>
      simp [e] at h; subst h
      obtain ⟨h1, h2, h3, h4⟩ := putCells_spec n (v :: vs) cs r' e
      refine ⟨by simp [h1], fun _ => ?_, h3, fun j => ?_⟩
      · have := h2 (by simp); simp at this ⊢; omega
      · cases j with
        | zero => simp
        | succ j =>
          have := h4 j
          simp only [List.getElem?_cons_succ, this, List.length_cons]
          have e1 : (n + 1 ≤ j + 1 ∧ j + 1 < n + 1 + (vs.length + 1)) ↔ (n ≤ j ∧ j < n + (vs.length + 1)) := by omega
          have e2 : j + 1 - (n + 1) = j - n := by omega
          simp only [e1, e2]

-- the model's own steps on memory

theorem cell_at {w : World} {blk el flo fhi : Nat} {c : Array Value} (h : w.heap[blk]? = some (.cells c el (flo, fhi))) (k : Nat) : w.cell? ⟨blk, k, none⟩ = c[k]? := by
  simp [World.cell?, h]
theorem cell_rel {μ : Mu} {H : AHeap} {w : World} (hh : HRel μ H w) {b off : Nat} {i : Img} (hi : μ b = some i) {cs : List AV} {el lo hi' : Nat} {k : BK} (hb : H.get b = some (.cells cs el k lo hi'))
    {v : AV} (hv : cs[off]? = some v) : ∃ u, w.cell? ⟨i.blk, i.base + off, none⟩ = some u ∧ VRel μ v u := by
  obtain ⟨c, flo, fhi, h1, h2, _⟩ := hh.rel b _ i hb hi
  obtain ⟨u, hu, r⟩ := h2 off v hv
  exact ⟨u, by rw [cell_at h1, hu], r⟩
theorem run_loadAt {P : Program} {w : World} {a : Addr} {u : Value} (h : w.cell? a = some u) : (_root_.Go.load a).run P w = .ok u w := by
  rw [run_load]; simp [h]

theorem loadFrom_rel {P : Program} {μ : Mu} {H : AHeap} {w : World} (hh : HRel μ H w) {b : Nat} {i : Img} (hi : μ b = some i) {cs : List AV} {el lo hi' : Nat} {k : BK} (hb : H.get b = some (.cells cs el k lo hi')) (off : Nat) :
    ∀ (n s : Nat) (acc : Array Value) (avs : List AV), takeN n (dropN (off + s) cs) = some avs →
      ∃ us : List Value, (loadCellsFrom ⟨i.blk, i.base + off, none⟩ s n acc).run P w = .ok (acc ++ us.toArray) w ∧ VRels μ avs us := by
  intro n
  induction n with
  | zero =>
    intro s acc avs h
    simp [takeN] at h; subst h
    exact ⟨[], by simp [loadCellsFrom], rfl⟩
  | succ n ih =>
    intro s acc avs h
    rw [dropN_eq] at h
    cases hd : cs.drop (off + s) with
    | nil => rw [hd] at h; simp [takeN] at h
    | cons a l =>
      rw [hd] at h
      simp only [takeN] at h
      cases e : takeN n l with
      | none => simp [e] at h
      | some r =>
        simp [e] at h; subst h
        have ha : cs[off + s]? = some a := by
          have := congrArg (·[0]?) hd
          simpa [List.getElem?_drop] using this
        have hl : l = dropN (off + (s + 1)) cs := by
          rw [dropN_eq]
          have := congrArg (List.drop 1) hd
          simp only [List.drop_drop, List.drop_succ_cons, List.drop_zero] at this
          rw [← this]; congr 1
        obtain ⟨u, hu, hr⟩ := cell_rel hh hi hb ha
        obtain ⟨us, h1, h2⟩ := ih (s + 1) (acc.push u) r (by rw [← hl]; exact e)
        refine ⟨u :: us, ?_, ⟨u, us, rfl, hr, h2⟩⟩
        have hu' : w.cell? ((⟨i.blk, i.base + off, none⟩ : Addr).add s) = some u := by rw [add_plain, Nat.add_assoc]; exact hu
        simp only [loadCellsFrom, Sem.run_bind, run_loadAt hu', Result.andThen_ok, h1]
        congr 1
        apply Array.ext'
        simp
theorem loadCells_rel {P : Program} {μ : Mu} {H : AHeap} {w : World} (hh : HRel μ H w) {b off n : Nat} {i : Img} (hi : μ b = some i) {avs : List AV} (h : loadCells H b off n = some avs) :
    ∃ us : List Value, (_root_.Go.loadCells ⟨i.blk, i.base + off, none⟩ n).run P w = .ok ⟨us⟩ w ∧ VRels μ avs us := by
  unfold loadCells at h
  split at h
  · rename_i cs el k lo hi' hb
    obtain ⟨us, h1, h2⟩ := loadFrom_rel (P := P) hh hi hb off n 0 #[] avs h
    exact ⟨us, by simpa [_root_.Go.loadCells] using h1, h2⟩
  · cases h
theorem load1_rel {P : Program} {μ : Mu} {H : AHeap} {w : World} (hh : HRel μ H w) {b off : Nat} {i : Img} (hi : μ b = some i) {v : AV} (h : load1 H b off = some v) :
    ∃ u, (_root_.Go.load ⟨i.blk, i.base + off, none⟩).run P w = .ok u w ∧ VRel μ v u := by
  unfold load1 at h
  split at h
  · rename_i cs el k lo hi' hb
    rw [nth_eq] at h
    obtain ⟨u, hu, hr⟩ := cell_rel hh hi hb h
    exact ⟨u, run_loadAt hu, hr⟩
  · cases h

theorem run_storeCells (P : Program) (blk k : Nat) : ∀ (vs : List Value) (w : World) (i : Nat) (c : Array Value) (el flo fhi : Nat), w.heap[blk]? = some (.cells c el (flo, fhi)) →
    (∀ v ∈ vs, v.oneCell' = true) → k + i + vs.length ≤ c.size → (∀ j, k + i ≤ j → j < k + i + vs.length → ¬ (flo ≤ j ∧ j < fhi)) →
    ∃ w' c', (_root_.Go.storeCells ⟨blk, k, none⟩ vs i).run P w = .ok () w' ∧ w'.heap[blk]? = some (.cells c' el (flo, fhi)) ∧ (∀ r, r ≠ blk → w'.heap[r]? = w.heap[r]?) ∧ w'.heap.size = w.heap.size ∧
      w'.os = w.os ∧ w'.output = w.output ∧ (w'.tape = w.tape ∧ w'.drawn = w.drawn) ∧ c'.size = c.size ∧ ∀ j, c'[j]? = if k + i ≤ j ∧ j < k + i + vs.length then vs[j - (k + i)]? else c[j]? := by
  intro vs
  induction vs with
  | nil =>
    intro w i c el flo fhi hb _ _ _
    exact ⟨w, c, by simp [_root_.Go.storeCells], hb, fun _ _ => rfl, rfl, rfl, rfl, ⟨rfl, rfl⟩, rfl, fun j => by rw [if_neg (by simp)]⟩
  | cons v vs ih =>
    intro w i c el flo fhi hb hc hs hf
    simp only [List.length_cons] at hs hf
    have hlt : k + i < c.size := by omega
    have hcell : w.cell? ⟨blk, k + i, none⟩ = some c[k + i] := by rw [cell_at hb]; exact Array.getElem?_eq_getElem hlt
    have hfr : w.frozen? ⟨blk, k + i, none⟩ = false := by
      have := hf (k + i) (by omega) (by omega)
      simp only [World.frozen?, hb]
      cases h1 : decide (flo ≤ k + i) with
      | false => rfl
      | true =>
        cases h2 : decide (k + i < fhi) with
        | false => rfl
        | true => exact absurd ⟨of_decide_eq_true h1, of_decide_eq_true h2⟩ this
    have hb' : (w.setCell ⟨blk, k + i, none⟩ v).heap[blk]? = some (.cells (c.setIfInBounds (k + i) v) el (flo, fhi)) := by
      simp [World.setCell, Array.getElem?_modify, hb]
    obtain ⟨w', c', h1, h2, h3, h4, h5, h6, h7, h8, h9⟩ := ih (w.setCell ⟨blk, k + i, none⟩ v) (i + 1) (c.setIfInBounds (k + i) v) el flo fhi hb' (fun x hx => hc x (.tail _ hx)) (by simp; omega)
      (fun j hj1 hj2 => hf j (by omega) (by omega))
    refine ⟨w', c', ?_, h2, fun r hr => ?_, ?_, h5, h6, h7, by simpa using h8, fun j => ?_⟩
    · simp only [_root_.Go.storeCells, Sem.run_bind, add_plain, run_store P w ⟨blk, k + i, none⟩ v .plain (hc v (.head _)), hcell, hfr, Bool.false_eq_true, if_false, Result.andThen_ok, h1]
    · rw [h3 r hr]; simp only [World.setCell, Array.getElem?_modify]
      rw [if_neg (fun e => hr e.symm)]
    · rw [h4]; simp [World.setCell]
    · rw [h9 j]
      by_cases e : j = k + i
      · subst e
        rw [if_neg (by omega), if_pos (by simp), Array.getElem?_setIfInBounds]
        simp [hlt]
      · by_cases e2 : k + (i + 1) ≤ j ∧ j < k + (i + 1) + vs.length
        · rw [if_pos e2, if_pos (by simp only [List.length_cons]; omega)]
          have : j - (k + i) = (j - (k + (i + 1))) + 1 := by omega
          rw [this]; simp
        · rw [if_neg e2, if_neg (by simp only [List.length_cons]; omega), Array.getElem?_setIfInBounds]
          rw [if_neg (fun e' => e e'.symm)]

theorem VRels.oneCell {μ : Mu} : ∀ {as : List AV} {vs : List Value}, VRels μ as vs → (∀ a ∈ as, a.isCell = true) → ∀ v ∈ vs, v.oneCell' = true
  | [], _, h, _ => by cases h; intro v hv; cases hv
  | a :: as, _, ⟨v, vs, e, h1, h2⟩, hc => by
    subst e
    intro x hx
    cases hx with
    | head => exact h1.oneCell (hc a (.head _))
    | tail _ hx => exact VRels.oneCell h2 (fun a ha => hc a (.tail _ ha)) x hx

theorem not_frozen {k : BK} {lo hi off n : Nat} (hw : writable k lo hi off n = true) {cs : List AV} {i : Img} {flo fhi : Nat} (hk : KRel k cs i lo hi flo fhi) (hin : n = 0 ∨ off + n ≤ i.size) :
    ∀ j, i.base + off ≤ j → j < i.base + off + n → ¬ (flo ≤ j ∧ j < fhi) := by
  intro j h1 h2 ⟨h3, h4⟩
  cases k with
  | ro => simp [writable] at hw
  | fz => simp [writable] at hw
  | own =>
    obtain ⟨hb, hs, rfl, rfl⟩ := hk
    simp only [writable, Bool.or_eq_true, Nat.ble_eq] at hw
    omega
  | opn =>
    obtain ⟨hs, hf⟩ := hk
    simp only [writable, Bool.or_eq_true, Nat.ble_eq] at hw
    have := hf (j - i.base) (by omega) (by omega) (by omega)
    omega

theorem storeCells_rel {P : Program} {μ : Mu} {H : AHeap} {w : World} (hh : HRel μ H w) {b off : Nat} {i : Img} (hi : μ b = some i) {vs : List AV} {us : List Value} (hv : VRels μ vs us) {H' : AHeap}
    (h : storeCells H b off vs = some H') :
    ∃ w', (_root_.Go.storeCells ⟨i.blk, i.base + off, none⟩ us).run P w = .ok () w' ∧ HRel μ H' w' ∧ Adv μ H w μ H' w' := by
  unfold storeCells at h
  split at h
  · rename_i cs el k lo hi' hb
    split at h
    · rename_i hw
      split at h
      · rename_i cs' hp
        cases h
        obtain ⟨p1, p2, p3, p4⟩ := putCells_spec _ _ _ _ hp
        obtain ⟨c, flo, fhi, h1, h2, h3, h4⟩ := hh.rel b _ i hb hi
        have hlen := hv.length
        have hsz : vs ≠ [] → off + vs.length ≤ i.size ∧ i.base + off + vs.length ≤ c.size := fun hne => by
          have := p2 hne
          have hlast := h2 (cs.length - 1) (cs[cs.length - 1]'(by cases vs with | nil => exact absurd rfl hne | cons a l => simp at this; omega)) (List.getElem?_eq_getElem _)
          obtain ⟨u, hu, _⟩ := hlast
          have hlt : i.base + (cs.length - 1) < c.size := by
            rcases Nat.lt_or_ge (i.base + (cs.length - 1)) c.size with h | h
            · exact h
            · rw [Array.getElem?_eq_none h] at hu; cases hu
          have hpos : 0 < vs.length := by cases vs with | nil => exact absurd rfl hne | cons a l => simp
          cases k with
          | ro => simp [writable] at hw
          | fz => simp [writable] at hw
          | own => obtain ⟨a1, a2, _⟩ := h4; omega
          | opn => obtain ⟨a1, _⟩ := h4; omega
        by_cases hne : vs = []
        · subst hne
          have : us = [] := by cases us with | nil => rfl | cons a l => simp at hlen
          subst this
          have hcs : cs' = cs := by
            apply List.ext_getElem?
            intro j; rw [p4 j, if_neg (by simp)]
          subst hcs
          obtain ⟨r1, r2⟩ := hh.update (w' := w) hb (by cases k <;> first | rfl | simp [writable] at hw) hi rfl (fun _ _ => rfl) rfl rfl rfl (hh.rel b _ i hb hi)
          exact ⟨w, by simp [_root_.Go.storeCells], r1, r2⟩
        · obtain ⟨s1, s2⟩ := hsz hne
          obtain ⟨w', c', e1, e2, e3, e4, e5, e6, e7, e8, e9⟩ := run_storeCells P i.blk (i.base + off) us w 0 c el flo fhi h1 (hv.oneCell p3) (by omega)
            (by have := not_frozen hw h4 (.inr s1); rw [hlen] at this; simpa using this)
          obtain ⟨r1, r2⟩ := hh.update (w' := w') (o' := .cells cs' el k lo hi') hb (by cases k <;> first | rfl | simp [writable] at hw) hi e4 e3 e5 e6 e7.1 (hdr := Nat.le_of_eq e7.2.symm)
            ⟨c', flo, fhi, e2, fun j v hj => by
              rw [p4 j] at hj
              rw [e9]
              by_cases hr : off ≤ j ∧ j < off + vs.length
              · rw [if_pos hr] at hj
                rw [if_pos (by omega)]
                have : i.base + j - (i.base + off + 0) = j - off := by omega
                rw [this]; exact hv.get hj
              · rw [if_neg hr] at hj
                rw [if_neg (by omega)]
                exact h2 j v hj, by omega, by
              cases k with
              | ro => trivial
              | fz => trivial
              | own => obtain ⟨a1, a2, a3⟩ := h4; exact ⟨a1, by omega, a3⟩
              | opn => obtain ⟨a1, a2⟩ := h4; exact ⟨by omega, a2⟩⟩
          exact ⟨w', e1, r1, r2⟩
      · cases h
    · cases h
  · cases h

theorem World.heap_alloc_new (w : World) (x : Obj) : (w.alloc x).heap[w.heap.size]? = some x := by unfold World.alloc; simp
/-- A row of cells, laid anew. -/
theorem newRow_rel {P : Program} {μ : Mu} {H : AHeap} {w : World} (hh : HRel μ H w) {el b : Nat} {cs : List AV} {us : List Value} {H' : AHeap} (hv : VRels μ cs us) (h : newRow H el cs = some (b, H')) :
    (_root_.Go.newRow el ⟨us⟩).run P w = .ok ⟨w.heap.size, 0, none⟩ (w.alloc (.cells ⟨us⟩ el)) ∧ b = H.n ∧ upd μ H.n ⟨w.heap.size, 0, us.length⟩ b = some ⟨w.heap.size, 0, us.length⟩ ∧
      HRel (upd μ H.n ⟨w.heap.size, 0, us.length⟩) H' (w.alloc (.cells ⟨us⟩ el)) ∧ Adv μ H w (upd μ H.n ⟨w.heap.size, 0, us.length⟩) H' (w.alloc (.cells ⟨us⟩ el)) := by
  unfold newRow at h
  split at h
  · cases h
    have hle := hh.le_upd ⟨w.heap.size, 0, us.length⟩
    obtain ⟨r1, r2⟩ := hh.alloc (.cells cs el .own 0 0) (.cells ⟨us⟩ el) us.length
      ⟨⟨us⟩, 0, 0, by exact World.heap_alloc_new _ _, fun j v hj => by
        obtain ⟨u, hu, hr⟩ := hv.get hj
        exact ⟨u, by simpa using hu, hr.mono hle⟩, by simp, rfl, hv.length.symm, rfl, rfl⟩
    exact ⟨by simp [_root_.Go.newRow], rfl, upd_same _ _ _, r1, r2⟩
  · cases h

-- what is known of types

section types
variable {P : Program} {w : World} {t : TypeId}
theorem run_typeInfo {i : TypeInfo} (h : P.info? t = some i) : (typeInfo t).run P w = .ok i w := by simp [typeInfo, h]
theorem run_und {d : TypeDesc} (h : P.underlying t = some d) : (underlying t).run P w = .ok d w := by simp [underlying, h]
theorem run_sizeOf {n : Nat} (h : sizeT P t = some n) : (_root_.Go.sizeOf t).run P w = Result.ok n w := by
  unfold sizeT at h
  split at h
  · rename_i i hi; cases h; simp [_root_.Go.sizeOf, run_typeInfo hi]
  · cases h
theorem run_isAgg {b : Bool} (h : isAggT P t = some b) : (isAgg t).run P w = .ok b w := by
  unfold isAggT at h
  cases hu : P.underlying t with
  | none => rw [hu] at h; cases h
  | some d =>
    rw [hu] at h
    simp only [isAgg, Sem.run_bind, run_und hu, Result.andThen_ok]
    cases d <;> cases h <;> rfl
theorem run_zero {z : AV} (h : zeroT P t = some z) : ∃ v, (zeroValue t).run P w = .ok v w ∧ z = absV v ∧ z ≠ .bad := by
  unfold zeroT at h
  split at h
  · rename_i i hi
    split at h
    · rename_i v hv
      split at h
      · cases h
      · rename_i a hne
        cases h
        exact ⟨v, by simp [zeroValue, run_typeInfo hi, hv], rfl, hne⟩
    · cases h
  · cases h
end types
end AEv

/-
  THE ABSTRACT EVALUATOR: operations, first part: values, memory, building.
-/
namespace AEv
open Go

def ValOK (P : Program) (μ : Mu) (H : AHeap) (w : World) (s : Sem Value) (v : AV) (H' : AHeap) : Prop :=
  ∃ μ' w' v', s.run P w = .ok v' w' ∧ VRel μ' v v' ∧ HRel μ' H' w' ∧ Adv μ H w μ' H' w'
theorem ValOK.same {P : Program} {μ : Mu} {H : AHeap} {w : World} {s : Sem Value} {v : AV} {v' : Value} (hh : HRel μ H w) (hs : s.run P w = .ok v' w) (hv : VRel μ v v') : ValOK P μ H w s v H :=
  ⟨μ, w, v', hs, hv, hh, Adv.refl _ _ _⟩

section
variable {P : Program} {μ : Mu} {H : AHeap} {w : World}

theorem alloc_ok (hh : HRel μ H w) {e : TypeId} {z : AV} (hz : zeroT P e = some z) {b : Nat} {H' : AHeap} (hr : newRow H e z.cells = some (b, H')) :
    ValOK P μ H w (Instr.alloc e true (.tuple #[])) (.ptr b 0) H' := by
  obtain ⟨v, hv, rfl, hb⟩ := run_zero (w := w) hz
  have hc := (absV_rel μ v).cells hb
  obtain ⟨h1, rfl, h2, h3, h4⟩ := newRow_rel (P := P) hh hc hr
  refine ⟨_, _, .pointer (some ⟨w.heap.size, 0, none⟩), ?_, ⟨_, h2, by simp⟩, h3, h4⟩
  simp [Instr.alloc, hv, newVar, h1]

theorem box_ok (hh : HRel μ H w) {e : TypeId} {x : AV} {v : Value} (hv : VRel μ x v) {b : Nat} {H' : AHeap} (hr : newRow H e x.cells = some (b, H')) :
    ValOK P μ H w (Instr.box e v) (.ptr b 0) H' := by
  have hb : x ≠ .bad := by intro h; rw [h] at hr; simp [newRow, AV.cells, AV.isCell] at hr
  obtain ⟨h1, rfl, h2, h3, h4⟩ := newRow_rel (P := P) hh (hv.cells hb) hr
  refine ⟨_, _, .pointer (some ⟨w.heap.size, 0, none⟩), ?_, ⟨_, h2, by simp⟩, h3, h4⟩
  simp [Instr.box, newVar, h1]

theorem load_ok (hh : HRel μ H w) {t : TypeId} {b off : Nat} {v : Value} (hv : VRel μ (.ptr b off) v) :
    (∀ n cs, isAggT P t = some true → sizeT P t = some n → loadCells H b off n = some cs → ValOK P μ H w (Instr.loadAt t v) (.agg cs) H) ∧
    (∀ x, isAggT P t = some false → load1 H b off = some x → ValOK P μ H w (Instr.loadAt t v) x H) := by
  obtain ⟨i, hi, rfl⟩ := hv
  constructor
  · intro n cs ha hn hl
    obtain ⟨us, h1, h2⟩ := loadCells_rel (P := P) hh hi hl
    exact .same hh (v' := .agg ⟨us⟩) (by simp [Instr.loadAt, Instr.sureAddr, loadVar, run_isAgg ha, run_sizeOf hn, h1]) ⟨us, rfl, h2⟩
  · intro x ha hl
    obtain ⟨u, h1, h2⟩ := load1_rel (P := P) hh hi hl
    exact .same hh (v' := u) (by simp only [Instr.loadAt, Instr.sureAddr, loadVar, Sem.run_bind, Sem.run_pure, Result.andThen_ok, run_isAgg ha, Bool.false_eq_true, if_false, h1]) h2

theorem store_ok (hh : HRel μ H w) {t : TypeId} {b off n : Nat} {v u : Value} {x : AV} (hv : VRel μ (.ptr b off) v) (hx : VRel μ x u) (hb : x ≠ .bad) (hn : sizeT P t = some n) (hl : x.cells.length = n)
    {H' : AHeap} (hs : storeCells H b off x.cells = some H') :
    ∃ w', (Instr.storeAt t v u).run P w = .ok () w' ∧ HRel μ H' w' ∧ Adv μ H w μ H' w' := by
  obtain ⟨i, hi, rfl⟩ := hv
  have hc := hx.cells hb
  obtain ⟨w', h1, h2, h3⟩ := storeCells_rel (P := P) hh hi hc hs
  refine ⟨w', ?_, h2, h3⟩
  have hsz : u.cells.size = n := by have := hc.length; rw [hl] at this; simpa using this.symm
  simp [Instr.storeAt, Instr.sureAddr, storeVar, run_sizeOf hn, hsz, h1]

-- building

theorem fold_put (off : Nat) : ∀ (l : List Value) (s : Nat) (cs : Array Value), off + s + l.length ≤ cs.size →
    ((l.zipIdx s).foldl (fun cs (x : Value × Nat) => cs.setIfInBounds (off + x.2) x.1) cs).size = cs.size ∧
    ∀ j : Nat, ((l.zipIdx s).foldl (fun cs (x : Value × Nat) => cs.setIfInBounds (off + x.2) x.1) cs)[j]? = if off + s ≤ j ∧ j < off + s + l.length then l[j - (off + s)]? else cs[j]?
  | [], s, cs, _ => by
    refine ⟨rfl, fun j => by rw [if_neg (by simp)]; rfl⟩
  | a :: l, s, cs, h => by
    simp only [List.length_cons] at h
    obtain ⟨h1, h2⟩ := fold_put off l (s + 1) (cs.setIfInBounds (off + s) a) (by simp; omega)
    simp only [List.zipIdx_cons, List.foldl_cons]
    refine ⟨by rw [h1]; simp, fun j => ?_⟩
    rw [h2 j]
    by_cases e : j = off + s
    · subst e
      rw [if_neg (by omega), if_pos (by simp), Array.getElem?_setIfInBounds]
      simp; omega
    · by_cases e2 : off + (s + 1) ≤ j ∧ j < off + (s + 1) + l.length
      · rw [if_pos e2, if_pos (by simp only [List.length_cons]; omega)]
        have : j - (off + s) = (j - (off + (s + 1))) + 1 := by omega
        rw [this]; simp
      · rw [if_neg e2, if_neg (by simp only [List.length_cons]; omega), Array.getElem?_setIfInBounds, if_neg (fun e' => e e'.symm)]

theorem fill_rel (place : Nat → Option (Nat × Nat)) {ι : Type} (g : ι → AV) (ρ : ι → Value) (hg : ∀ x, VRel μ (g x) (ρ x)) : ∀ (ps : List (Nat × ι)) (cs r : List AV) (c : Array Value), VRels μ cs c.toList →
    fillA place cs (ps.map fun p => (p.1, g p.2)) = some r → ∃ c' : List Value, Instr.fill place c (ps.map fun p => (p.1, ρ p.2)) = some ⟨c'⟩ ∧ VRels μ r c'
  | [], cs, r, c, hc, h => by
    simp [fillA] at h; subst h
    exact ⟨c.toList, by simp [Instr.fill], hc⟩
  | (k, x) :: ps, cs, r, c, hc, h => by
    simp only [List.map_cons] at h ⊢
    have hv := hg x
    generalize g x = v at h hv
    generalize ρ x = u at hv ⊢
    have hb : v ≠ .bad := by intro e; subst e; simp [fillA] at h
    have hstep : ∃ off size cs', place k = some (off, size) ∧ v.cells.length = size ∧ off + size ≤ cs.length ∧ putCells off v.cells cs = some cs' ∧ fillA place cs' (ps.map fun p => (p.1, g p.2)) = some r := by
      cases v <;> first
        | exact absurd rfl hb
        | (simp only [fillA] at h
           split at h
           · cases h
           · rename_i off size hpl
             split at h
             · rename_i hsz
               simp only [Bool.and_eq_true, Nat.ble_eq] at hsz
               split at h
               · rename_i cs' hput
                 exact ⟨off, size, cs', hpl, Nat.eq_of_beq_eq_true hsz.1, hsz.2, hput, h⟩
               · cases h
             · cases h)
    obtain ⟨off, size, cs', hpl, hsz, hbound, hput, hrest⟩ := hstep
    obtain ⟨p1, p2, p3, p4⟩ := putCells_spec _ _ _ _ hput
    have hcv := hv.cells hb
    have hl := hcv.length
    have hlc := hc.length
    have h3 : c.toList.length = c.size := by simp
    have husz : u.cells.size = size := by rw [← hsz, hl]; simp
    obtain ⟨f1, f2⟩ := fold_put off u.cells.toList 0 c (by simp; omega)
    have hfold : (u.cells.zipIdx.foldl (fun cs (x : Value × Nat) => cs.setIfInBounds (off + x.2) x.1) c) = ((u.cells.toList.zipIdx 0).foldl (fun cs (x : Value × Nat) => cs.setIfInBounds (off + x.2) x.1) c) := by
      rw [← Array.foldl_toList, Array.toList_zipIdx]
    have key : VRels μ cs' (u.cells.zipIdx.foldl (fun cs (x : Value × Nat) => cs.setIfInBounds (off + x.2) x.1) c).toList := by
      rw [hfold]
      refine VRels.of_get (by rw [p1, hlc]; simpa using f1.symm) fun j a ha => ?_
      rw [p4 j] at ha
      rw [Array.getElem?_toList, f2 j]
      have hul : u.cells.toList.length = v.cells.length := hl.symm
      by_cases hr : off ≤ j ∧ j < off + v.cells.length
      · rw [if_pos hr] at ha; rw [if_pos (by omega)]
        exact hcv.get (by simpa using ha)
      · rw [if_neg hr] at ha; rw [if_neg (by omega)]
        simpa using hc.get ha
    obtain ⟨c', g1, g2⟩ := fill_rel place g ρ hg ps cs' r _ key hrest
    refine ⟨c', ?_, g2⟩
    simp only [Instr.fill, hpl, husz]
    rw [if_neg (by simp; omega)]
    exact g1

theorem sizeT_cells {t : TypeId} {n : Nat} (h : sizeT P t = some n) : P.cellsOf t = n := by
  unfold sizeT at h
  split at h
  · rename_i i hi; cases h; simp [Program.cellsOf, hi]
  · cases h
theorem run_places (w : World) : ∀ l : List Field, (l.all fun f => (sizeT P f.type).isSome) = true →
    (l.mapM (fun f => do pure (f.offset, ← _root_.Go.sizeOf f.type) : Field → Sem (Nat × Nat))).run P w = .ok (l.map fun f => (f.offset, P.cellsOf f.type)) w
  | [], _ => rfl
  | f :: l, h => by
    simp only [List.all_cons, Bool.and_eq_true] at h
    obtain ⟨n, hn⟩ := Option.isSome_iff_exists.1 h.1
    simp only [List.mapM_cons, Sem.run_bind, run_sizeOf hn, Result.andThen_ok, Sem.run_pure, run_places w l h.2, List.map_cons, sizeT_cells hn]

theorem build_struct_ok (hh : HRel μ H w) (g : Operand → AV) (ρ : Operand → Value) (hg : ∀ x, VRel μ (g x) (ρ x)) {t : TypeId} {z : AV} (hz : zeroT P t = some z) {fs : Array Field} (hu : P.underlying t = some (.struct fs))
    (hall : (fs.toList.all fun f => (sizeT P f.type).isSome) = true) (parts : Array (Nat × Operand)) {cs : List AV}
    (hf : fillA (fun i => (fs[i]?).map fun f => (f.offset, P.cellsOf f.type)) z.cells (parts.toList.map fun p => (p.1, g p.2)) = some cs) :
    ValOK P μ H w (Instr.build t (parts.map fun (i, x) => (i, ρ x))) (.agg cs) H := by
  obtain ⟨v, hv, rfl, hb⟩ := run_zero (w := w) hz
  have hc := (absV_rel μ v).cells hb
  obtain ⟨c', h1, h2⟩ := fill_rel _ g ρ hg parts.toList _ cs v.cells hc hf
  have hp := run_places (P := P) w fs.toList hall
  refine .same hh (v' := .agg ⟨c'⟩) ?_ ⟨c', rfl, h2⟩
  have hm : (fs.mapM (fun f => do pure (f.offset, ← _root_.Go.sizeOf f.type) : Field → Sem (Nat × Nat))).run P w = .ok (fs.map fun f => (f.offset, P.cellsOf f.type)) w := by
    obtain ⟨l⟩ := fs
    have e : (l.toArray.mapM (fun f => do pure (f.offset, ← _root_.Go.sizeOf f.type) : Field → Sem (Nat × Nat))) = List.toArray <$> l.mapM (fun f => do pure (f.offset, ← _root_.Go.sizeOf f.type)) := List.mapM_toArray
    refine (congrArg (fun s : Sem (Array (Nat × Nat)) => s.run P w) e).trans ?_
    simp only [Sem.run_map]
    rw [show (Sem.run P (List.mapM (fun f => do pure (f.offset, ← _root_.Go.sizeOf f.type) : Field → Sem (Nat × Nat)) l) w) = _ from hp]; simp
  have hfun : (fun i : Nat => (fs.map fun f => (f.offset, P.cellsOf f.type))[i]?) = fun i => (fs[i]?).map fun f => (f.offset, P.cellsOf f.type) := by
    funext i; simp
  simp only [Instr.build, Sem.run_bind, hv, Result.andThen_ok, run_und hu, hm, hfun, Array.toList_map, h1]
  rfl

theorem build_array_ok (hh : HRel μ H w) (g : Operand → AV) (ρ : Operand → Value) (hg : ∀ x, VRel μ (g x) (ρ x)) {t e : TypeId} {n sz : Nat} {z : AV} (hz : zeroT P t = some z) (hu : P.underlying t = some (.array n e))
    (hs : sizeT P e = some sz) (parts : Array (Nat × Operand)) {cs : List AV}
    (hf : fillA (fun i => some (i * sz, sz)) z.cells (parts.toList.map fun p => (p.1, g p.2)) = some cs) :
    ValOK P μ H w (Instr.build t (parts.map fun (i, x) => (i, ρ x))) (.agg cs) H := by
  obtain ⟨v, hv, rfl, hb⟩ := run_zero (w := w) hz
  have hc := (absV_rel μ v).cells hb
  obtain ⟨c', h1, h2⟩ := fill_rel _ g ρ hg parts.toList _ cs v.cells hc hf
  refine .same hh (v' := .agg ⟨c'⟩) ?_ ⟨c', rfl, h2⟩
  simp only [Instr.build, Sem.run_bind, hv, Result.andThen_ok, run_und hu, run_sizeOf hs, Array.toList_map, h1]
  rfl

theorem repeatL_length {α : Type} (n : Nat) (l : List α) : (repeatL n l).length = n * l.length := by
  induction n with
  | zero => simp [repeatL]
  | succ n ih => simp [repeatL, ih, Nat.succ_mul]; omega
theorem repeatL_get {α : Type} : ∀ (n : Nat) (l : List α) (j : Nat), j < n * l.length → (repeatL n l)[j]? = l[j % l.length]?
  | 0, l, j, h => by simp at h
  | n + 1, l, j, h => by
    simp only [repeatL]
    by_cases e : j < l.length
    · rw [List.getElem?_append_left e, Nat.mod_eq_of_lt e]
    · rw [List.getElem?_append_right (by omega), repeatL_get n l (j - l.length) (by rw [Nat.succ_mul] at h; omega)]
      have : (j - l.length) % l.length = j % l.length := by
        have hh : j = (j - l.length) + l.length := by omega
        conv => rhs; rw [hh, Nat.add_mod_right]
      rw [this]
theorem zrow_rel {zc : List AV} {zero : Array Value} (hz : VRels μ zc zero.toList) {sz : Nat} (hs : zc.length = sz) (n : Nat) :
    VRels μ (repeatL n zc) ((Array.range (n * sz)).map (fun i => zero[i % zero.size]!)).toList := by
  have hl := hz.length
  have h3 : zero.toList.length = zero.size := by simp
  refine VRels.of_get (by rw [repeatL_length, hs]; simp) fun j a ha => ?_
  have hj : j < n * zc.length := by
    rcases Nat.lt_or_ge j (n * zc.length) with h | h
    · exact h
    · rw [List.getElem?_eq_none (by rw [repeatL_length]; exact h)] at ha; cases ha
  rw [repeatL_get n zc j hj] at ha
  obtain ⟨u, hu, hr⟩ := hz.get ha
  refine ⟨u, ?_, hr⟩
  have hpos : 0 < zc.length := by
    rcases Nat.eq_zero_or_pos zc.length with h | h
    · rw [h] at hj; simp at hj
    · exact h
  have hlt : j % zero.size < zero.size := Nat.mod_lt _ (by omega)
  have e1 : zc.length = zero.size := by omega
  rw [e1] at hu
  rw [Array.getElem?_toList] at hu
  rw [Array.getElem?_toList, Array.getElem?_map, Array.getElem?_range]
  rw [if_pos (by rw [← hs]; exact hj)]
  simp only [Option.map_some]
  rw [Array.getElem?_eq_getElem hlt] at hu
  simp only [Option.some.injEq] at hu
  rw [getElem!_pos zero _ hlt, hu]

theorem buildSlice_ok (hh : HRel μ H w) (g : Operand → AV) (ρ : Operand → Value) (hg : ∀ x, VRel μ (g x) (ρ x)) {t e : TypeId} {len sz : Nat} {z : AV} (hu : P.underlying t = some (.slice e)) (hs : sizeT P e = some sz)
    (hz : zeroT P e = some z) (hle : len * sz ≤ 16777216) (hzl : z.cells.length = sz) (parts : Array (Nat × Operand)) {cs : List AV}
    (hf : fillA (fun i => some (i * sz, sz)) (if len * sz = 0 then [] else repeatL len z.cells) (parts.toList.map fun p => (p.1, g p.2)) = some cs) {b : Nat} {H' : AHeap} (hr : newRow H e cs = some (b, H')) :
    ValOK P μ H w (Instr.buildSlice t len (parts.map fun (i, x) => (i, ρ x))) (.slice b 0 len (.exact len)) H' := by
  obtain ⟨v, hv, rfl, hb⟩ := run_zero (w := w) hz
  have hc := (absV_rel μ v).cells hb
  have h24 : ¬ (len * sz > 2 ^ 24) := by omega
  have key : ∀ zero : Array Value, VRels μ (if len * sz = 0 then [] else repeatL len (absV v).cells) ((Array.range (len * sz)).map (fun i => zero[i % zero.size]!)).toList →
      (∀ r : Result Value, r = (match Instr.fill (fun i => some (i * sz, sz)) ((Array.range (len * sz)).map (fun i => zero[i % zero.size]!)) (parts.toList.map fun p => (p.1, ρ p.2)) with
        | some cells => do pure (.slice (some (← _root_.Go.newRow e cells)) len len)
        | none => stuck "buildSlice: a part of the wrong size" : Sem Value).run P w → (Instr.buildSlice t len (parts.map fun (i, x) => (i, ρ x))).run P w = r) →
      ValOK P μ H w (Instr.buildSlice t len (parts.map fun (i, x) => (i, ρ x))) (.slice b 0 len (.exact len)) H' := by
    intro zero hz2 hrun
    obtain ⟨c', h1, h2⟩ := fill_rel _ g ρ hg parts.toList _ cs _ hz2 hf
    obtain ⟨n1, rfl, n2, n3, n4⟩ := newRow_rel (P := P) hh h2 hr
    refine ⟨_, _, .slice (some ⟨w.heap.size, 0, none⟩) len len, ?_, ⟨_, n2, by simp [CapRel]⟩, n3, n4⟩
    refine hrun _ ?_
    rw [h1]
    simp [n1]
  by_cases h0 : len * sz = 0
  · refine key #[] (by rw [if_pos h0, h0]; simp [VRels]) fun r hr => ?_
    rw [hr]
    simp only [Instr.buildSlice, Sem.run_bind, run_und hu, Result.andThen_ok, run_sizeOf hs, if_neg h24, if_pos h0, Sem.run_pure, Array.toList_map]
    generalize Instr.fill _ _ _ = F
    cases F <;> rfl
  · refine key v.cells (by rw [if_neg h0]; exact zrow_rel hc hzl len) fun r hr => ?_
    rw [hr]
    simp only [Instr.buildSlice, Sem.run_bind, run_und hu, Result.andThen_ok, run_sizeOf hs, if_neg h24, if_neg h0, Sem.run_pure, Array.toList_map, hv]
    generalize Instr.fill _ _ _ = F
    cases F <;> rfl
end
end AEv

/-
  THE ABSTRACT EVALUATOR: operations, second part: numbers, slices, strings, conversions.
-/
namespace AEv
open Go

theorem wrap_nat (n : Nat) (h : n < 9223372036854775808) : IntKind.wrap .i64 (n : Int) = (n : Int) := by
  have e : ((n : Int) % 18446744073709551616) = n := by omega
  have e2 : (2 : Int) ^ 64 = 18446744073709551616 := by rfl
  have e3 : (2 : Int) ^ 63 = 9223372036854775808 := by rfl
  simp only [IntKind.wrap, IntKind.bits, IntKind.signed, e2, e3, e, Bool.true_and, decide_eq_true_eq, Nat.add_one_sub_one]
  rw [if_neg (by show ¬ ((2 : Int) ^ 63 ≤ n); rw [e3]; omega)]

section
variable {P : Program} {μ : Mu} {H : AHeap} {w : World}

theorem makeSlice_ok (hh : HRel μ H w) {t e : TypeId} {l c : Nat} {i : TypeInfo} {z : AV} {kl kc : IntKind} (hu : P.underlying t = some (.slice e)) (hi : P.info? e = some i) (hz : zeroT P e = some z) (hlc : l ≤ c)
    (hb48 : c * (i.bytes + 1) ≤ 1099511627776) (hzl : z.cells.length = i.size) {b : Nat} {H' : AHeap} (hr : newRow H e (if c * i.size = 0 then [] else repeatL c z.cells) = some (b, H')) :
    ValOK P μ H w (Instr.makeSlice t (.int kl l) (.int kc c)) (.slice b 0 l (.exact c)) H' := by
  obtain ⟨v, hv, rfl, hb⟩ := run_zero (w := w) hz
  have hc := (absV_rel μ v).cells hb
  have hbc : c ≤ 1099511627776 := Nat.le_trans (Nat.le_mul_of_pos_right c (by omega)) hb48
  have hcb : i.bytes * c ≤ 1099511627776 := by
    have : c * i.bytes ≤ c * (i.bytes + 1) := Nat.mul_le_mul_left c (by omega)
    rw [Nat.mul_comm]; omega
  have w64 : ∀ n : Nat, n ≤ 1099511627776 → IntKind.wrap .i64 (n : Int) = (n : Int) := fun n hn => wrap_nat n (by omega)
  have hwl := w64 l (by omega)
  have hwc := w64 c hbc
  have hnot : ¬ ((c : Int) < 0 || (i.bytes : Int) * (c : Int) > 2 ^ 48 || (l : Int) < 0 || (l : Int) > (c : Int)) = true := by
    have h1 : ((i.bytes : Int) * (c : Int)) ≤ 1099511627776 := by
      have h0 : ((i.bytes * c : Nat) : Int) ≤ 1099511627776 := by omega
      rw [Int.natCast_mul] at h0; exact h0
    have h2 : (2 : Int) ^ 48 = 281474976710656 := by rfl
    generalize (i.bytes : Int) * (c : Int) = q at h1 ⊢
    rw [h2]
    simp only [Bool.or_eq_true, decide_eq_true_eq]
    omega
  have key : ∀ zero : Array Value, VRels μ (if c * i.size = 0 then [] else repeatL c (absV v).cells) ((Array.range (c * i.size)).map (fun j => zero[j % zero.size]!)).toList →
      (Instr.makeSlice t (.int kl l) (.int kc c)).run P w = (do let a ← _root_.Go.newRow e ((Array.range (c * i.size)).map (fun j => zero[j % zero.size]!)); pure (.slice (some a) l c) : Sem Value).run P w →
      ValOK P μ H w (Instr.makeSlice t (.int kl l) (.int kc c)) (.slice b 0 l (.exact c)) H' := by
    intro zero hz2 hrun
    obtain ⟨n1, rfl, n2, n3, n4⟩ := newRow_rel (P := P) hh hz2 hr
    refine ⟨_, _, .slice (some ⟨w.heap.size, 0, none⟩) l c, ?_, ⟨_, n2, by simp [CapRel]⟩, n3, n4⟩
    rw [hrun]
    simp only [Sem.run_bind, Sem.run_pure]
    have : (⟨((Array.range (c * i.size)).map (fun j => zero[j % zero.size]!)).toList⟩ : Array Value) = ((Array.range (c * i.size)).map (fun j => zero[j % zero.size]!)) := rfl
    rw [this] at n1
    rw [n1]; rfl
  have hsz : (_root_.Go.sizeOf e).run P w = .ok i.size w := by simp [_root_.Go.sizeOf, run_typeInfo hi]
  by_cases h0 : c * i.size = 0
  · refine key #[] (by rw [if_pos h0, h0]; simp [VRels]) ?_
    simp only [Instr.makeSlice, Sem.run_bind, run_und hu, Result.andThen_ok, asInt, asIntOf, Sem.run_pure, run_typeInfo hi, hwl, hwc]
    rw [if_neg hnot]
    simp [hsz, h0]
  · refine key v.cells (by rw [if_neg h0]; exact zrow_rel hc hzl c) ?_
    simp only [Instr.makeSlice, Sem.run_bind, run_und hu, Result.andThen_ok, asInt, asIntOf, Sem.run_pure, run_typeInfo hi, hwl, hwc]
    rw [if_neg hnot]
    simp [hsz, h0, hv]

theorem nilCheck_val {x : AV} {v : Value} (hv : VRel μ x v) (hx : (∃ b o, x = .ptr b o) ∨ (∃ b o n c, x = .slice b o n c) ∨ (∃ f a b, x = .fn f a b) ∨ ∃ t y, x = .iface t y) :
    ∀ (o : Oper) (op : Operand) (ρ : Operand → Value), ρ op = v → o.op = .nilCheck op → (execOp ρ o).run P w = .ok (.value v) w := by
  intro o op ρ hρ ho
  simp only [execOp, ho, hρ]
  rcases hx with ⟨b, o', rfl⟩ | ⟨b, o', n, c, rfl⟩ | ⟨f, a, b, rfl⟩ | ⟨t, y, rfl⟩
  · obtain ⟨i, _, rfl⟩ := hv; rfl
  · obtain ⟨i, _, hc⟩ := hv
    cases c with
    | exact c => cases hc; rfl
    | opn esz => obtain ⟨c, rfl, _⟩ := hc; rfl
    | dead => obtain ⟨_, a, c, rfl⟩ := hc; rfl
  · obtain ⟨fs, cs, rfl, _, _⟩ := hv; rfl
  · obtain ⟨y', rfl, _⟩ := hv; rfl

-- integers

theorem binOp_int (op : BinOp) (t : TypeId) (k : IntKind) (x y : Int) (hop : op ≠ .shl ∧ op ≠ .shr) : binOp op t (.int k x) (.int k y) = match op with
    | .add | .sub | .mul => Op.intArith op k x y
    | .quo | .rem => Op.intDiv op k x y
    | .and | .or | .xor | .andNot => Op.intBits op k x y
    | _ => Op.intCmp op x y := by
  cases op <;> first
    | (exact absurd rfl hop.1)
    | (exact absurd rfl hop.2)
    | simp [binOp]
theorem arith_ok {op : BinOp} {k : IntKind} {x y : Int} {v : AV} (h : arith op k x y = some v) (hop : op ≠ .shl ∧ op ≠ .shr) (t : TypeId) :
    ∃ u, (binOp op t (.int k x) (.int k y)).run P w = .ok u w ∧ VRel μ v u := by
  rw [binOp_int op t k x y hop]
  cases op <;> simp only [arith] at h
  case shl => cases h
  case shr => cases h
  case quo =>
    split at h
    · cases h
    · rename_i hy; cases h; exact ⟨_, by simp only [Op.intDiv, if_neg hy]; rfl, rfl⟩
  case rem =>
    split at h
    · cases h
    · rename_i hy; cases h; exact ⟨_, by simp only [Op.intDiv, if_neg hy]; rfl, rfl⟩
  all_goals (cases h; exact ⟨_, rfl, rfl⟩)

theorem shift_ok {op : BinOp} {k k' : IntKind} {x y : Int} {v : AV} (h : shiftA op k x y = some v) (t : TypeId) :
    ∃ u, (binOp op t (.int k x) (.int k' y)).run P w = .ok u w ∧ VRel μ v u := by
  unfold shiftA at h
  split at h
  · cases h
  · rename_i hy
    cases op <;> simp only [] at h <;> first
      | (cases h; done)
      | (cases h; exact ⟨_, by simp [binOp, Op.shift, hy], rfl⟩)

theorem bytes_loop (b : ByteArray) : ∀ (n i : Nat) (r : List UInt8), b.size - i = n → ByteArray.toList.loop b i r = r.reverse ++ b.data.toList.drop i
  | 0, i, r, h => by
    rw [ByteArray.toList.loop]
    have hs : b.data.toList.length = b.size := Array.length_toList
    rw [if_neg (by omega), List.drop_eq_nil_of_le (by omega)]; simp
  | n + 1, i, r, h => by
    rw [ByteArray.toList.loop]
    have hs : b.data.toList.length = b.size := Array.length_toList
    rw [if_pos (by omega), bytes_loop b n (i + 1) _ (by omega)]
    rw [List.drop_eq_getElem_cons (i := i) (by omega)]
    have : b.get! i = b.data.toList[i]'(by omega) := by
      have h2 : i < b.data.size := by have := Array.length_toList (xs := b.data); omega
      show b.data[i]! = _
      rw [getElem!_pos b.data i h2]; simp
    simp [this]
theorem bytes_toList (s : ByteArray) : s.toList = s.data.toList := by
  unfold ByteArray.toList
  rw [bytes_loop s _ 0 [] rfl]; simp

theorem beqBytes_eq : ∀ a b : List UInt8, beqBytes a b = (a == b)
  | [], [] => rfl
  | [], _ :: _ => rfl
  | _ :: _, [] => rfl
  | a :: x, b :: y => by
    have ih := beqBytes_eq x y
    simp only [beqBytes, List.cons_beq_cons]
    cases e : Nat.beq a.toNat b.toNat with
    | true =>
      have : a = b := UInt8.toNat_inj.1 (Nat.eq_of_beq_eq_true e)
      subst this; simp [ih]
    | false =>
      have : (a == b) = false := by
        rw [beq_eq_false_iff_ne]; intro h; subst h; simp at e
      simp [this]
theorem ltBytes_eq : ∀ a b : List UInt8, ltBytes a b = Op.bytesLess a b
  | [], [] => rfl
  | [], _ :: _ => rfl
  | _ :: _, [] => rfl
  | a :: x, b :: y => by
    have ih := ltBytes_eq x y
    simp only [ltBytes, Op.bytesLess]
    cases e : Nat.beq a.toNat b.toNat with
    | true =>
      have : a = b := UInt8.toNat_inj.1 (Nat.eq_of_beq_eq_true e)
      subst this; simp [ih]
    | false =>
      have h1 : (a == b) = false := by
        rw [beq_eq_false_iff_ne]; intro h; subst h; simp at e
      have h2 : decide (a < b) = Nat.blt a.toNat b.toNat := by
        rw [Bool.eq_iff_iff]; simp [UInt8.lt_iff_toNat_lt]
      simp [h1, h2]
theorem bytesLess_total : ∀ a b : List UInt8, (Op.bytesLess a b || (a == b)) = !Op.bytesLess b a
  | [], [] => rfl
  | [], _ :: _ => rfl
  | _ :: _, [] => rfl
  | a :: x, b :: y => by
    have ih := bytesLess_total x y
    simp only [Op.bytesLess, List.cons_beq_cons]
    by_cases h : a = b
    · subst h
      have : ¬ (a < a) := UInt8.lt_irrefl a
      simpa [this] using ih
    · have hne : (a == b) = false := beq_eq_false_iff_ne.2 h
      have hne' : (b == a) = false := beq_eq_false_iff_ne.2 (fun e => h e.symm)
      simp only [hne, hne', Bool.false_and, Bool.or_false]
      rw [Bool.eq_iff_iff]
      simp only [decide_eq_true_eq, Bool.not_eq_true', decide_eq_false_iff_not, UInt8.lt_iff_toNat_lt]
      have : a.toNat ≠ b.toNat := fun e => h (UInt8.toNat_inj.1 e)
      omega

theorem str_ok {op : BinOp} {a b : ByteArray} {v : AV} (h : strOp op a.data.toList b.data.toList = some v) (t : TypeId) : ∃ u, (binOp op t (.string a) (.string b)).run P w = .ok u w ∧ VRel μ v u := by
  have ha := bytes_toList a
  have hb := bytes_toList b
  have h1 := beqBytes_eq a.data.toList b.data.toList
  have h2 := ltBytes_eq a.data.toList b.data.toList
  have h3 := ltBytes_eq b.data.toList a.data.toList
  have ht := bytesLess_total a.data.toList b.data.toList
  have hsa : a.data.toList.length = a.size := Array.length_toList
  have hsb : b.data.toList.length = b.size := Array.length_toList
  cases op <;> simp only [strOp] at h
  case add =>
    split at h
    · cases h
    · rename_i hl
      cases h
      refine ⟨.string (a ++ b), ?_, ⟨a ++ b, rfl, by simp [ByteArray.data_append]⟩⟩
      rw [hsa, hsb] at hl
      simp only [binOp, Op.stringOp]
      rw [if_neg hl]; rfl
  case eql => cases h; exact ⟨_, rfl, congrArg Value.bool (by rw [ha, hb, h1])⟩
  case neq => cases h; exact ⟨_, rfl, congrArg Value.bool (by rw [ha, hb, h1])⟩
  case lss => cases h; exact ⟨_, rfl, congrArg Value.bool (by rw [ha, hb, h2])⟩
  case leq => cases h; exact ⟨_, rfl, congrArg Value.bool (by rw [ha, hb, h3]; exact ht)⟩
  case gtr => cases h; exact ⟨_, rfl, congrArg Value.bool (by rw [ha, hb, h3, ht, Bool.not_not])⟩
  case geq => cases h; exact ⟨_, rfl, congrArg Value.bool (by rw [ha, hb, h2])⟩
  all_goals cases h

-- bounds

def OptRel (μ : Mu) : Option AV → Option Value → Prop
  | none, none => True
  | some a, some v => VRel μ a v
  | _, _ => False
theorem OptRel.map (g : Operand → AV) (ρ : Operand → Value) (hg : ∀ x, VRel μ (g x) (ρ x)) (o : Option Operand) : OptRel μ (o.map g) (o.map ρ) := by
  cases o with
  | none => trivial
  | some x => exact hg x
theorem asN_some {a : AV} {n : Nat} (h : asN a = some n) {v : Value} (hv : VRel μ a v) : ∃ k, v = .int k (n : Int) := by
  unfold asN at h
  split at h
  · rename_i k m; cases h; exact ⟨k, hv⟩
  · cases h
theorem run_bound {n y : Nat} {k : IntKind} (h : n ≤ y) (c : BoundsCode) : (Instr.sliceBound (.int k (n : Int)) y c).run P w = .ok n w := by
  simp only [Instr.sliceBound, asIntOf, Sem.run_bind, Sem.run_pure, Result.andThen_ok]
  rw [if_pos ⟨by omega, by omega⟩]
  simp
theorem optN_some {d n : Nat} {o : Option AV} {o' : Option Value} (h : optN d o = some n) (hr : OptRel μ o o') : (o' = none ∧ n = d ∧ o = none) ∨ ∃ k a, o = some a ∧ o' = some (.int k (n : Int)) := by
  cases o with
  | none => cases o' with
    | none => simp [optN] at h; exact .inl ⟨rfl, h.symm, rfl⟩
    | some _ => exact hr.elim
  | some a => cases o' with
    | none => exact hr.elim
    | some v => obtain ⟨k, e⟩ := asN_some (μ := μ) h hr; exact .inr ⟨k, a, rfl, by rw [e]⟩
theorem run_bounds {len cap l h m : Nat} {lo hi mx : Option AV} {lo' hi' mx' : Option Value} (hlo : OptRel μ lo lo') (hhi : OptRel μ hi hi') (hmx : OptRel μ mx mx')
    (hb : bounds len cap lo hi mx = some (l, h, m)) (b : Bool) : (Instr.sliceBounds b len cap lo' hi' mx').run P w = .ok (l, h, m) w ∧ l ≤ h ∧ h ≤ m ∧ m ≤ cap ∧ (mx = none → m = cap) := by
  unfold bounds at hb
  cases em : optN cap mx with
  | none => rw [em] at hb; cases hb
  | some m1 =>
    rw [em] at hb
    simp only at hb
    cases hm : Nat.ble m1 cap with
    | false => rw [hm] at hb; cases hb
    | true =>
      rw [hm] at hb
      simp only at hb
      have hm' := Nat.le_of_ble_eq_true hm
      split at hb
      · cases hb
      · rename_i hh ehh
        cases hhm : Nat.ble hh m1 with
        | false => rw [hhm] at hb; cases hb
        | true =>
          rw [hhm] at hb
          simp only at hb
          have hhm' := Nat.le_of_ble_eq_true hhm
          cases el : optN 0 lo with
          | none => rw [el] at hb; cases hb
          | some l1 =>
            rw [el] at hb
            simp only at hb
            cases hl : Nat.ble l1 hh with
            | false => rw [hl] at hb; cases hb
            | true =>
              rw [hl] at hb
              simp only [Option.some.injEq, Prod.mk.injEq] at hb
              obtain ⟨rfl, rfl, rfl⟩ := hb
              have hl' := Nat.le_of_ble_eq_true hl
              have eh : (hi' = none ∧ mx' = none ∧ hh = len) ∨ ∃ k, hi' = some (.int k (hh : Int)) := by
                cases hi with
                | none => cases hi' with
                  | some _ => exact hhi.elim
                  | none => cases mx with
                    | some _ => simp at ehh
                    | none => cases mx' with
                      | some _ => exact hmx.elim
                      | none => simp at ehh; exact .inl ⟨rfl, rfl, ehh.symm⟩
                | some a => cases hi' with
                  | none => exact hhi.elim
                  | some v =>
                    have ea : asN a = some hh := by cases mx <;> simpa using ehh
                    obtain ⟨k, e⟩ := asN_some (μ := μ) ea hhi
                    exact .inr ⟨k, by rw [e]⟩
              refine ⟨?_, hl', hhm', hm', fun e => by rw [e] at em; simp [optN] at em; exact em.symm⟩
              rcases optN_some em hmx with ⟨e1, e2, _⟩ | ⟨k1, _, _, e1⟩ <;> rcases eh with ⟨e3, e4, e5⟩ | ⟨k2, e3⟩ <;> rcases optN_some el hlo with ⟨e6, e7, _⟩ | ⟨k3, _, _, e6⟩ <;>
                first
                | (exfalso; simp [e1] at e4; done)
                | (subst_vars; simp [Instr.sliceBounds, run_bound hm', run_bound hhm', run_bound hl'])
end
end AEv

/-
  THE ABSTRACT EVALUATOR: operations, third part: slices, fields, indexes, append, copy.
-/
namespace AEv
open Go

section
variable {P : Program} {μ : Mu} {H : AHeap} {w : World}

theorem extract_bytes (t : ByteArray) (l h : Nat) (hh : h ≤ t.size) : (t.extract l h).data.toList = List.take (h - l) (dropN l t.data.toList) := by
  rw [dropN_eq]
  simp only [ByteArray.data_extract, Array.toList_extract, List.extract_eq_take_drop]

theorem ble_of {m n : Nat} (h : m ≤ n) : Nat.ble m n = true := Nat.ble_eq_true_of_le h
theorem bounds_cap {len k c : Nat} {lo hi mx : Option AV} {l h m : Nat} (hb : bounds len k lo hi mx = some (l, h, m)) (hk : k ≤ c) : bounds len c lo hi mx = some (l, h, if mx.isNone then c else m) := by
  have fin : ∀ (m1 m2 : Nat) (E : Option Nat) , m1 ≤ m2 →
      (match E with
      | none => none
      | some hh => match Nat.ble hh m1 with
        | false => none
        | true => match optN 0 lo with
          | none => none
          | some l => match Nat.ble l hh with
            | false => none
            | true => some (l, hh, m1)) = some (l, h, m) →
      (match E with
      | none => none
      | some hh => match Nat.ble hh m2 with
        | false => none
        | true => match optN 0 lo with
          | none => none
          | some l => match Nat.ble l hh with
            | false => none
            | true => some (l, hh, m2)) = some (l, h, m2) := by
    intro m1 m2 E hm hE
    cases E with
    | none => cases hE
    | some hh =>
      simp only at hE ⊢
      cases h1 : Nat.ble hh m1 with
      | false => rw [h1] at hE; cases hE
      | true =>
        rw [h1] at hE
        rw [ble_of (Nat.le_trans (Nat.le_of_ble_eq_true h1) hm)]
        simp only at hE ⊢
        cases hl : optN 0 lo with
        | none => rw [hl] at hE; cases hE
        | some l1 =>
          rw [hl] at hE
          simp only at hE ⊢
          cases h4 : Nat.ble l1 hh with
          | false => rw [h4] at hE; cases hE
          | true => rw [h4] at hE; simp only [Option.some.injEq, Prod.mk.injEq] at hE ⊢; exact ⟨hE.1, hE.2.1, trivial⟩
  unfold bounds at hb ⊢
  cases mx with
  | none =>
    have e1 : optN k none = some k := rfl
    have e2 : optN c none = some c := rfl
    rw [e1] at hb; rw [e2]
    simp only at hb ⊢
    rw [ble_of (Nat.le_refl k)] at hb; rw [ble_of (Nat.le_refl c)]
    simp only [Option.isNone_none, if_true] at hb ⊢
    cases hi with
    | none => exact fin k c (some len) hk hb
    | some a => exact fin k c (asN a) hk hb
  | some mxv =>
    have e1 : optN k (some mxv) = asN mxv := rfl
    have e2 : optN c (some mxv) = asN mxv := rfl
    rw [e1] at hb; rw [e2]
    cases em : asN mxv with
    | none => rw [em] at hb; cases hb
    | some m1 =>
      rw [em] at hb
      simp only at hb ⊢
      cases h1 : Nat.ble m1 k with
      | false => rw [h1] at hb; cases hb
      | true =>
        rw [h1] at hb
        rw [ble_of (Nat.le_trans (Nat.le_of_ble_eq_true h1) hk)]
        simp only [Option.isNone_some, Bool.false_eq_true, if_false] at hb ⊢
        have hmm : m1 = m := by
          cases hi <;> simp only at hb
          · cases hb
          · split at hb <;> try cases hb
            split at hb <;> try cases hb
            split at hb <;> try cases hb
            split at hb <;> first | cases hb; rfl | cases hb
        subst hmm
        cases hi <;> exact hb

theorem slice_ok (hh : HRel μ H w) {t : TypeId} {x : AV} {xv : Value} (hx : VRel μ x xv) {lo hi mx : Option AV} {lo' hi' mx' : Option Value} (hlo : OptRel μ lo lo') (hhi : OptRel μ hi hi') (hmx : OptRel μ mx mx') {v : AV}
    (h : sliceA P H t x lo hi mx = some v) : ValOK P μ H w (Instr.sliceAt t xv lo' hi' mx') v H := by
  unfold sliceA at h
  split at h
  · -- a string
    rename_i s hu
    obtain ⟨bs, rfl, rfl⟩ := hx
    cases mx with
    | some _ => cases h
    | none =>
      simp only at h
      cases mx' with
      | some _ => exact hmx.elim
      | none =>
        split at h
        · rename_i l hb m hbd
          cases h
          have hsz : bs.data.toList.length = bs.size := Array.length_toList
          rw [hsz] at hbd
          obtain ⟨r1, r2, r3, r4, _⟩ := run_bounds (P := P) (w := w) hlo hhi (μ := μ) (mx := none) (mx' := none) trivial hbd false
          refine .same hh (v' := .string (bs.extract l hb)) ?_ ⟨_, rfl, extract_bytes _ _ _ (by omega)⟩
          simp [Instr.sliceAt, Instr.slice, run_und hu, r1]
        · cases h
  · -- nil
    rename_i e hu
    cases hx
    split at h
    · rename_i sz r hs hbd
      cases h
      obtain ⟨l, hb, m⟩ := r
      obtain ⟨r1, r2, r3, r4, _⟩ := run_bounds (P := P) (w := w) hlo hhi hmx hbd true
      have : m = 0 ∧ l = 0 ∧ hb = 0 := by omega
      obtain ⟨rfl, rfl, rfl⟩ := this
      exact .same hh (v' := .slice none 0 0) (by simp [Instr.sliceAt, Instr.slice, run_und hu, r1, run_sizeOf hs]) rfl
    · cases h
  · -- a slice of a known capacity
    rename_i e b off len cap hu
    obtain ⟨i, hbi, hc⟩ := hx
    cases hc
    split at h
    · rename_i sz l hb m hs hbd
      cases h
      obtain ⟨r1, r2, r3, r4, _⟩ := run_bounds (P := P) (w := w) hlo hhi hmx hbd true
      refine .same hh (v' := .slice (some ⟨i.blk, i.base + (if m = l then off else off + l * sz), none⟩) (hb - l) (m - l)) ?_ ⟨i, hbi, rfl⟩
      by_cases e : m = l
      · simp [Instr.sliceAt, Instr.slice, run_und hu, r1, run_sizeOf hs, e]
      · simp [Instr.sliceAt, Instr.slice, run_und hu, r1, run_sizeOf hs, e, add_plain, Nat.add_assoc]
    · cases h
  · -- a slice whose capacity reaches to the block's end
    rename_i e b off len esz hu
    obtain ⟨i, hbi, c, rfl, hlc, hsz⟩ := hx
    split at h
    · rename_i sz hs
      split at h
      · rename_i hse
        subst hse
        cases mx with
        | none =>
          cases mx' with
          | some _ => exact hmx.elim
          | none =>
            simp only at h
            split at h
            · rename_i l hb m hbd
              have hbd' : bounds len c lo hi none = some (l, hb, c) := bounds_cap hbd hlc
              obtain ⟨r1, r2, r3, r4, _⟩ := run_bounds (P := P) (w := w) hlo hhi (μ := μ) (mx := none) (mx' := none) trivial hbd' true
              obtain ⟨_, q2, q3, q4, _⟩ := run_bounds (P := P) (w := w) hlo hhi (μ := μ) (mx := none) (mx' := none) trivial hbd true
              have hrun : (Instr.sliceAt t (.slice (some ⟨i.blk, i.base + off, none⟩) len c) lo' hi' none).run P w = .ok (.slice (some (if c = l then ⟨i.blk, i.base + off, none⟩ else ⟨i.blk, i.base + off + l * sz, none⟩)) (hb - l) (c - l)) w := by
                by_cases e : c = l
                · subst e; simp [Instr.sliceAt, Instr.slice, run_und hu, r1, run_sizeOf hs]
                · simp [Instr.sliceAt, Instr.slice, run_und hu, r1, run_sizeOf hs, e, add_plain]
              split at h
              · rename_i hl0
                subst hl0
                cases h
                refine .same hh hrun ⟨i, hbi, c, ?_, by omega, hsz⟩
                by_cases e : c = 0
                · simp [e]
                · simp [e]
              · rename_i hl0
                split at h
                · rename_i hlt
                  cases h
                  simp only [Nat.blt_eq] at hlt
                  refine .same hh hrun ⟨i, hbi, c - l, ?_, by omega, ?_⟩
                  · rw [if_neg (by omega)]; simp [Nat.add_assoc]
                  · have : c * sz = l * sz + (c - l) * sz := by rw [← Nat.add_mul]; congr 1; omega
                    omega
                · rename_i hlt
                  cases h
                  have hlt' : ¬ l < len := by simpa [Nat.blt_eq] using hlt
                  have h0 : hb - l = 0 := by omega
                  rw [h0] at hrun
                  exact .same hh hrun ⟨i, hbi, rfl, _, c - l, rfl⟩
            · cases h
        | some mxv =>
          simp only at h
          split at h
          · rename_i l hb m hbd
            cases h
            obtain ⟨_, q2, q3, q4, _⟩ := run_bounds (P := P) (w := w) hlo hhi hmx hbd true
            have hbd' : bounds len c lo hi (some mxv) = some (l, hb, m) := bounds_cap hbd hlc
            obtain ⟨r1, r2, r3, r4, _⟩ := run_bounds (P := P) (w := w) hlo hhi hmx hbd' true
            refine .same hh (v' := .slice (some ⟨i.blk, i.base + (if m = l then off else off + l * sz), none⟩) (hb - l) (m - l)) ?_ ⟨i, hbi, rfl⟩
            by_cases e : m = l
            · simp [Instr.sliceAt, Instr.slice, run_und hu, r1, run_sizeOf hs, e]
            · simp [Instr.sliceAt, Instr.slice, run_und hu, r1, run_sizeOf hs, e, add_plain, Nat.add_assoc]
          · cases h
      · cases h
    · cases h
  · -- an empty slice whose place is not known
    rename_i e b off len hu
    obtain ⟨i, hbi, rfl, a, c, rfl⟩ := hx
    split at h
    · rename_i sz r hs hbd
      cases h
      obtain ⟨l, hb, m⟩ := r
      obtain ⟨_, q2, q3, q4, q5⟩ := run_bounds (P := P) (w := w) hlo hhi hmx hbd true
      have : m = 0 ∧ l = 0 ∧ hb = 0 := by omega
      obtain ⟨rfl, rfl, rfl⟩ := this
      have hbd' : bounds 0 c lo hi mx = some (0, 0, (if mx.isNone then c else 0)) := bounds_cap hbd (Nat.zero_le _)
      obtain ⟨r1, r2, r3, r4, _⟩ := run_bounds (P := P) (w := w) hlo hhi hmx hbd' true
      refine .same hh (v' := .slice (some a) 0 ((if mx.isNone then c else 0) - 0)) ?_ ⟨i, hbi, rfl, a, _, rfl⟩
      have ha : a.add (0 * sz) = a := by simp [Addr.add]
      simp [Instr.sliceAt, Instr.slice, run_und hu, r1, run_sizeOf hs, Addr.add]
    · cases h
  · -- an array's address
    rename_i n e b off hu
    obtain ⟨i, hbi, rfl⟩ := hx
    split at h
    · rename_i sz l hb m hs hbd
      cases h
      obtain ⟨r1, r2, r3, r4, _⟩ := run_bounds (P := P) (w := w) hlo hhi hmx hbd false
      refine .same hh (v' := .slice (some ⟨i.blk, i.base + (if m = l then off else off + l * sz), none⟩) (hb - l) (m - l)) ?_ ⟨i, hbi, rfl⟩
      by_cases e : m = l
      · simp [Instr.sliceAt, Instr.sureAddr, run_und hu, r1, run_sizeOf hs, e]
      · simp [Instr.sliceAt, Instr.sureAddr, run_und hu, r1, run_sizeOf hs, e, add_plain, Nat.add_assoc]
    · cases h
  · -- a pointer to an array
    rename_i arr b off hu
    obtain ⟨i, hbi, rfl⟩ := hx
    split at h
    · rename_i n e hu2
      split at h
      · rename_i sz l hb m hs hbd
        cases h
        obtain ⟨r1, r2, r3, r4, _⟩ := run_bounds (P := P) (w := w) hlo hhi hmx hbd false
        refine .same hh (v' := .slice (some ⟨i.blk, i.base + (if m = l then off else off + l * sz), none⟩) (hb - l) (m - l)) ?_ ⟨i, hbi, rfl⟩
        by_cases e : m = l
        · simp [Instr.sliceAt, Instr.slice, asAddr, run_und hu, run_und hu2, r1, run_sizeOf hs, e]
        · simp [Instr.sliceAt, Instr.slice, asAddr, run_und hu, run_und hu2, r1, run_sizeOf hs, e, add_plain, Nat.add_assoc]
      · cases h
    · cases h
  · cases h

theorem part_rel {t : TypeId} {off : Nat} {cs : List AV} {l : List Value} (hl : VRels μ cs l) {v : AV} (h : partA P t cs off = some v) : ∃ u, (part t ⟨l⟩ off).run P w = .ok u w ∧ VRel μ v u := by
  unfold partA at h
  split at h
  · rename_i n ha hn
    split at h
    · rename_i r hr
      cases h
      rw [dropN_eq] at hr
      obtain ⟨h1, rfl⟩ := takeN_eq _ _ _ hr
      refine ⟨.agg ⟨(l.drop off).take n⟩, ?_, ⟨_, rfl, ?_⟩⟩
      · simp [part, run_isAgg ha, run_sizeOf hn, List.extract_eq_take_drop]
      · refine VRels.of_get (by have := hl.length; simp [this]) fun j a hj => ?_
        rw [List.getElem?_take] at hj ⊢
        split at hj
        · rename_i hjn
          rw [if_pos hjn]
          rw [List.getElem?_drop] at hj ⊢
          exact hl.get hj
        · cases hj
    · cases h
  · rename_i _ ha
    rw [nth_eq] at h
    obtain ⟨u, hu, hr⟩ := hl.get h
    refine ⟨u, ?_, hr⟩
    simp [part, run_isAgg ha, hu]
  · cases h

theorem field_ok (hh : HRel μ H w) {t : TypeId} {fs : Array Field} {fd : Field} {f : Nat} (hu : P.underlying t = some (.struct fs)) (hf : fs[f]? = some fd) {cs : List AV} {xv : Value} (hx : VRel μ (.agg cs) xv) {v : AV}
    (h : partA P fd.type cs fd.offset = some v) : ValOK P μ H w (Instr.field t xv f) v H := by
  obtain ⟨l, rfl, hl⟩ := hx
  obtain ⟨u, h1, h2⟩ := part_rel (P := P) (w := w) hl h
  exact .same hh (v' := u) (by simp [Instr.field, run_und hu, hf, asAgg, h1]) h2

theorem fieldAddr_ok (hh : HRel μ H w) {s : TypeId} {fs : Array Field} {fd : Field} {f n b off : Nat} (hu : P.underlying s = some (.struct fs)) (hf : fs[f]? = some fd) (hn : sizeT P fd.type = some n) (hn0 : n ≠ 0) {xv : Value}
    (hx : VRel μ (.ptr b off) xv) : ValOK P μ H w (Instr.fieldAt s xv f) (.ptr b (off + fd.offset)) H := by
  obtain ⟨i, hi, rfl⟩ := hx
  refine .same hh (v' := .pointer (some ⟨i.blk, i.base + (off + fd.offset), none⟩)) ?_ ⟨i, hi, rfl⟩
  simp [Instr.fieldAt, run_und hu, hf, Instr.sureAddr, fieldPlace, run_sizeOf hn, hn0, add_plain, Nat.add_assoc]

theorem indexAddr_slice_ok (hh : HRel μ H w) {t e : TypeId} {b off n k sz : Nat} {c : Cap} {kk : IntKind} (hu : P.underlying t = some (.slice e)) (hs : sizeT P e = some sz) {xv : Value} (hx : VRel μ (.slice b off n c) xv) (hk : k < n) :
    ValOK P μ H w (Instr.indexAt t xv (.int kk (k : Int))) (.ptr b (off + k * sz)) H := by
  obtain ⟨i, hi, hc⟩ := hx
  have hsl : ∃ cap, xv = .slice (some ⟨i.blk, i.base + off, none⟩) n cap := by
    cases c with
    | exact c => exact ⟨c, hc⟩
    | opn esz => obtain ⟨c, h, _⟩ := hc; exact ⟨c, h⟩
    | dead => obtain ⟨h0, _⟩ := hc; omega
  obtain ⟨cap, rfl⟩ := hsl
  refine .same hh (v' := .pointer (some ⟨i.blk, i.base + (off + k * sz), none⟩)) ?_ ⟨i, hi, rfl⟩
  simp only [Instr.indexAt, asIntOf, Sem.run_bind, Sem.run_pure, Result.andThen_ok, run_und hu]
  rw [if_pos ⟨by omega, by omega⟩]
  simp [run_sizeOf hs, add_plain, Nat.add_assoc]
theorem indexAddr_array_ok (hh : HRel μ H w) {t e : TypeId} {b off n k sz : Nat} {kk : IntKind} (hu : P.underlying t = some (.array n e)) (hs : sizeT P e = some sz) {xv : Value} (hx : VRel μ (.ptr b off) xv) (hk : k < n) :
    ValOK P μ H w (Instr.indexAt t xv (.int kk (k : Int))) (.ptr b (off + k * sz)) H := by
  obtain ⟨i, hi, rfl⟩ := hx
  refine .same hh (v' := .pointer (some ⟨i.blk, i.base + (off + k * sz), none⟩)) ?_ ⟨i, hi, rfl⟩
  simp only [Instr.indexAt, asIntOf, Sem.run_bind, Sem.run_pure, Result.andThen_ok, run_und hu, Instr.sureAddr]
  rw [if_pos ⟨by omega, by omega⟩]
  simp [run_sizeOf hs, add_plain, Nat.add_assoc]
theorem index_array_ok (hh : HRel μ H w) {t e : TypeId} {n k sz : Nat} {kk : IntKind} {cs : List AV} (hu : P.underlying t = some (.array n e)) (hs : sizeT P e = some sz) {xv : Value} (hx : VRel μ (.agg cs) xv) (hk : k < n) {v : AV}
    (h : partA P e cs (k * sz) = some v) : ValOK P μ H w (Instr.index t xv (.int kk (k : Int))) v H := by
  obtain ⟨l, rfl, hl⟩ := hx
  obtain ⟨u, h1, h2⟩ := part_rel (P := P) (w := w) hl h
  refine .same hh (v' := u) ?_ h2
  simp only [Instr.index, asIntOf, Sem.run_bind, Sem.run_pure, Result.andThen_ok, run_und hu]
  rw [if_pos ⟨by omega, by omega⟩]
  simp [run_sizeOf hs, h1]
theorem index_str_ok (hh : HRel μ H w) {t : TypeId} {k : Nat} {kk : IntKind} {s : List UInt8} (hu : P.underlying t = some .string) {xv : Value} (hx : VRel μ (.str s) xv) {c : UInt8} (h : nth k s = some c) :
    ValOK P μ H w (Instr.index t xv (.int kk (k : Int))) (.int .u8 (Int.ofNat c.toNat)) H := by
  obtain ⟨bs, rfl, rfl⟩ := hx
  rw [nth_eq] at h
  refine .same hh (v' := .int .u8 (c.toNat : Int)) ?_ rfl
  have hk : k < bs.data.size := by
    rcases Nat.lt_or_ge k bs.data.size with h' | h'
    · exact h'
    · rw [List.getElem?_eq_none (by simpa using h')] at h; cases h
  have hg : bs[k]? = some c := by
    rw [Array.getElem?_toList] at h
    rw [← h]
    show (if h : k < bs.size then some bs[k] else none) = _
    have hk' : k < bs.size := hk
    rw [dif_pos hk', Array.getElem?_eq_getElem hk]; rfl
  simp only [Instr.index, asIntOf, Sem.run_bind, Sem.run_pure, Result.andThen_ok, run_und hu]
  rw [if_pos (by omega)]
  simp [hg]
end
end AEv

/-
  THE ABSTRACT EVALUATOR: operations, fourth part: append, copy, clear.
-/
namespace AEv
open Go

section
variable {P : Program} {μ : Mu} {H : AHeap} {w : World}

theorem byteCells_rel (μ : Mu) : ∀ l : List UInt8, VRels μ (byteCells l) (l.map fun b => .int .u8 b.toNat)
  | [] => rfl
  | b :: l => ⟨_, _, rfl, rfl, byteCells_rel μ l⟩

theorem bytes_extract_all (t : ByteArray) : (t.extract 0 t.size) = t := by
  obtain ⟨d⟩ := t
  simp [ByteArray.ext_iff, ByteArray.data_extract, ByteArray.size]

/-- What is appended or copied: how many, and their cells. -/
theorem src_rel (hh : HRel μ H w) {size n : Nat} {x : AV} {xv : Value} (hx : VRel μ x xv) {cs : List AV} (h : srcCells H size x = some (n, cs)) :
    (Builtin.lenOf xv).run P w = .ok n w ∧ (∃ us : List Value, (Builtin.firstCells size n xv).run P w = .ok ⟨us⟩ w ∧ VRels μ cs us) := by
  cases x <;> simp only [srcCells] at h <;> try cases h
  · split at h <;> try cases h
    obtain ⟨bs, rfl, rfl⟩ := hx
    refine ⟨by rw [show bs.data.toList.length = bs.size from Array.length_toList]; rfl, _, ?_, byteCells_rel μ _⟩
    have hsz : bs.data.toList.length = bs.size := Array.length_toList
    simp only [Builtin.firstCells, Sem.run_pure, hsz, bytes_extract_all]
    congr 1
    apply Array.ext'
    simp
  · cases hx
    exact ⟨rfl, [], rfl, rfl⟩
  · rename_i b off len cap
    obtain ⟨i, hi, hc⟩ := hx
    cases cap with
    | dead =>
      obtain ⟨rfl, a, c, rfl⟩ := hc
      simp at h
      obtain ⟨rfl, rfl⟩ := h
      exact ⟨rfl, [], by simp [Builtin.firstCells, _root_.Go.loadCells, loadCellsFrom], rfl⟩
    | exact c =>
      cases hc
      simp only at h
      split at h
      · rename_i cs' hl
        cases h
        obtain ⟨us, h1, h2⟩ := loadCells_rel (P := P) hh hi hl
        exact ⟨rfl, us, by simp only [Builtin.firstCells]; exact h1, h2⟩
      · cases h
    | opn esz =>
      obtain ⟨c, rfl, _⟩ := hc
      simp only at h
      split at h
      · rename_i cs' hl
        cases h
        obtain ⟨us, h1, h2⟩ := loadCells_rel (P := P) hh hi hl
        exact ⟨rfl, us, by simp only [Builtin.firstCells]; exact h1, h2⟩
      · cases h

theorem zeroCells_rel {z : Value} (n : Nat) {zc : List AV} (hz : VRels μ zc z.cells.toList) : VRels μ (repeatL n zc) (Builtin.zeroCells z.cells n).toList := by
  have := zrow_rel hz rfl n
  have hl := hz.length
  have h3 : z.cells.toList.length = z.cells.size := by simp
  rw [hl, h3] at this
  exact this

theorem nextcap_le (need old : Nat) (h : old < need) : Builtin.nextslicecap need old ≤ 4 * need + 2048 := by
  unfold Builtin.nextslicecap
  split
  · omega
  · split
    · omega
    · have hg : ∀ rounds c, c ≤ 2 * need + 768 → (∀ k, k ≤ rounds → True) → Builtin.growBy need rounds c ≤ 4 * need + 2048 := by
        intro rounds
        induction rounds with
        | zero => intro c hc _; simp only [Builtin.growBy]; omega
        | succ r ih =>
          intro c hc _
          simp only [Builtin.growBy]
          split
          · omega
          · rename_i hlt
            exact ih _ (by omega) (fun _ _ => trivial)
      exact hg 4 old (by omega) (fun _ _ => trivial)

/-- A block is given up by the evaluator, and another one laid where it lay. -/
theorem HRel.adopt {w' : World} (h : HRel μ H w) {b : Nat} {o o' : AObj} {i : Img} (hb : H.get b = some o) (hro : o.isRo = false) (hi : μ b = some i)
    (hs : w'.heap.size = w.heap.size) (ho : ∀ r, r ≠ i.blk → w'.heap[r]? = w.heap[r]?) (hos : w'.os = w.os) (hout : w'.output = w.output) (htape : w'.tape = w.tape) (base sz : Nat)
    (hr : ORel (upd μ H.n ⟨i.blk, base, sz⟩) o' ⟨i.blk, base, sz⟩ w') (hdr : w.drawn ≤ w'.drawn := by first | exact Nat.le_refl _ | assumption) :
    HRel (upd μ H.n ⟨i.blk, base, sz⟩) ((H.set b none).push o') w' ∧ Adv μ H w (upd μ H.n ⟨i.blk, base, sz⟩) ((H.set b none).push o') w' := by
  have hle := h.le_upd ⟨i.blk, base, sz⟩
  have hbn : b < H.n := (h.lt b i hi).1
  have hlive : H.get b ≠ none := by rw [hb]; simp
  have hget : ∀ c, ((H.set b none).push o').get c = if c = H.n then some o' else if c = b then none else H.get c := fun c => by
    rw [AHeap.get_push, AHeap.get_set]; rfl
  have hlv : ∀ c, c < H.n → ((H.set b none).push o').get c ≠ none → c ≠ b ∧ H.get c ≠ none := fun c hc hn => by
    rw [hget, if_neg (by omega)] at hn
    by_cases e : c = b
    · rw [if_pos e] at hn; exact absurd rfl hn
    · rw [if_neg e] at hn; exact ⟨e, hn⟩
  constructor
  · refine ⟨fun c oc j hc hj => ?_, fun c d j k hc hd hj hk e => ?_, fun c j hj => ?_, fun c hc => ?_⟩
    · rw [hget] at hc
      by_cases e : c = H.n
      · rw [if_pos e] at hc; subst e; cases hc; rw [upd_same] at hj; cases hj; exact hr
      · rw [if_neg e] at hc; rw [upd_other _ _ e] at hj
        by_cases e2 : c = b
        · rw [if_pos e2] at hc; cases hc
        · rw [if_neg e2] at hc
          exact (h.rel c oc j hc hj).mono hle (ho _ fun e' => e2 (h.inj c b j i (by rw [hc]; simp) ⟨o, hb, hro⟩ hj hi e'))
    · have side : ∀ c j, c ≠ H.n → ((H.set b none).push o').get c ≠ none → upd μ H.n ⟨i.blk, base, sz⟩ c = some j → j.blk ≠ i.blk := fun c j hcn hc hj e => by
        rw [upd_other _ _ hcn] at hj
        obtain ⟨q1, q2⟩ := hlv c (h.lt c j hj).1 hc
        exact q1 (h.inj c b j i q2 ⟨o, hb, hro⟩ hj hi e)
      by_cases e1 : c = H.n
      · by_cases e2 : d = H.n
        · rw [e1, e2]
        · subst e1; rw [upd_same] at hj; cases hj
          exact absurd e.symm (side d k e2 (by obtain ⟨x, hx, _⟩ := hd; rw [hx]; simp) hk)
      · by_cases e2 : d = H.n
        · subst e2; rw [upd_same] at hk; cases hk
          exact absurd e (side c j e1 hc hj)
        · rw [upd_other _ _ e1] at hj; rw [upd_other _ _ e2] at hk
          exact h.inj c d j k (hlv c (h.lt c j hj).1 hc).2 (by
            obtain ⟨x, hx, hxr⟩ := hd
            rw [hget, if_neg e2] at hx
            split at hx
            · cases hx
            · exact ⟨x, hx, hxr⟩) hj hk e
    · by_cases e : c = H.n
      · subst e; rw [upd_same] at hj; cases hj
        have := (h.lt b i hi).2
        exact ⟨by simp, by rw [hs]; exact this⟩
      · rw [upd_other _ _ e] at hj
        have := h.lt c j hj
        exact ⟨by simp; omega, by rw [hs]; exact this.2⟩
    · simp at hc
      rw [hget, if_neg (by omega), if_neg (by omega)]; exact h.bound c (by omega)
  · refine ⟨hle, by omega, by simp, fun c hc hn => (hlv c hc hn).2, fun c hc hm => (by rw [hget, if_neg (by omega), if_neg]; intro e; subst e; rw [hi] at hm; cases hm), fun r _ hn => ho r fun e => hn b i hlive hi e.symm, fun c j h1 h2 => ?_, fun c oc j hc hrc hj => ?_, hos, hout, htape, hdr⟩
    · by_cases e : c = H.n
      · subst e; rw [upd_same] at h2; cases h2
        exact ⟨Nat.le_refl _, .inr ⟨b, o, i, hb, hro, hi, rfl⟩⟩
      · rw [upd_other _ _ e, h1] at h2; cases h2
    · have hne : c ≠ b := by intro e; subst e; rw [hb] at hc; cases hc; rw [hro] at hrc; cases hrc
      have hcn := (h.lt c j hj).1
      refine ⟨by rw [hget, if_neg (by omega), if_neg hne]; exact hc, ho _ fun e => hne (h.inj c b j i (by rw [hc]; simp) ⟨o, hb, hro⟩ hj hi e)⟩
/-- A block is given up. -/
theorem HRel.kill (h : HRel μ H w) {b : Nat} {o : AObj} {i : Img} (hb : H.get b = some o) (hro : o.isRo = false) (hi : μ b = some i) :
    HRel μ (H.set b none) w ∧ Adv μ H w μ (H.set b none) w := by
  have hlv : ∀ c, (H.set b none).get c ≠ none → H.get c ≠ none := fun c hn => by
    rw [AHeap.get_set] at hn
    by_cases e : c = b
    · rw [if_pos e] at hn; exact absurd rfl hn
    · rw [if_neg e] at hn; exact hn
  constructor
  · refine ⟨fun c oc j hc hj => ?_, fun c d j k hc hd => h.inj c d j k (hlv c hc) (by
      obtain ⟨x, hx, hxr⟩ := hd
      rw [AHeap.get_set] at hx
      split at hx
      · cases hx
      · exact ⟨x, hx, hxr⟩), h.lt, fun c hc => ?_⟩
    · rw [AHeap.get_set] at hc
      by_cases e : c = b
      · rw [if_pos e] at hc; cases hc
      · rw [if_neg e] at hc; exact h.rel c oc j hc hj
    · rw [AHeap.get_set]
      split
      · rfl
      · exact h.bound c hc
  · refine ⟨Le.refl μ, Nat.le_refl _, Nat.le_refl _, fun c _ hc => hlv c hc, fun c _ hm => (by rw [AHeap.get_set, if_neg]; intro e; subst e; rw [hi] at hm; cases hm), fun _ _ _ => rfl, fun c j h1 h2 => (by rw [h1] at h2; cases h2), fun c oc j hc hrc hj => ⟨?_, rfl⟩, rfl, rfl, rfl, Nat.le_refl _⟩
    have hne : c ≠ b := by intro e; subst e; rw [hb] at hc; cases hc; rw [hro] at hrc; cases hrc
    rw [AHeap.get_set, if_neg hne]; exact hc

theorem HRel.drew (h : HRel μ H w) : HRel μ H w.drew := h.of_heap rfl
theorem Adv.drew : Adv μ H w μ H w.drew := Adv.of_heap rfl rfl rfl rfl

theorem mul_le_room {need bytes : Nat} (h : roomOK need bytes = true) : (4 * need + 2048) * bytes ≤ 281474976710656 ∧ need ≤ 281474976710656 := by
  simp only [roomOK, Nat.ble_eq] at h
  have h1 : (4 * need + 2048) * bytes ≤ (4 * need + 2048) * (bytes + 1) := Nat.mul_le_mul_left _ (by omega)
  have h2 : (4 * need + 2048) * 1 ≤ (4 * need + 2048) * (bytes + 1) := Nat.mul_le_mul_left _ (by omega)
  refine ⟨Nat.le_trans h1 h, ?_⟩
  have h3 := Nat.le_trans h2 h
  rw [Nat.mul_one] at h3
  generalize 281474976710656 = q at h3 ⊢
  omega

/-- The model's append where it grows. -/
theorem run_grow {sT e : TypeId} {xT : Option TypeId} {i : TypeInfo} {z : Value} {argTypes : Array TypeId} {ty : TypeId} (h0 : argTypes[0]? = some sT) (h1 : argTypes[1]? = xT) (hu : P.underlying sT = some (.slice e)) (hx : srcOK P xT = true) (hi : P.info? e = some i)
    (hz : ∀ w : World, (zeroValue e).run P w = .ok z w) {base : Option Addr} {sLen sCap n : Nat} {xv : Value} (hl : (Builtin.lenOf xv).run P w = .ok n w) {us old : List Value} (hold : (Builtin.firstCells i.size sLen (.slice base sLen sCap)).run P w.drew = .ok ⟨old⟩ w.drew)
    (hnew : (Builtin.firstCells i.size n xv).run P w.drew = .ok ⟨us⟩ w.drew) (hlt : sCap < sLen + n) (hroom : roomOK (sLen + n) i.bytes = true) :
    ∃ newCap, sLen + n ≤ newCap ∧ (Builtin.append_ argTypes ty #[.slice base sLen sCap, xv]).run P w =
      .ok (.slice (some ⟨w.heap.size, 0, none⟩) (sLen + n) newCap) (w.drew.alloc (.cells (⟨old⟩ ++ ⟨us⟩ ++ Builtin.zeroCells z.cells (newCap - (sLen + n))) e)) := by
  obtain ⟨m1, m2⟩ := mul_le_room hroom
  have hnext := nextcap_le (sLen + n) sCap hlt
  have hb48 : ¬ (Builtin.nextslicecap (sLen + n) sCap * i.bytes > 2 ^ 48) := by
    have h1 : Builtin.nextslicecap (sLen + n) sCap * i.bytes ≤ (4 * (sLen + n) + 2048) * i.bytes := Nat.mul_le_mul_right _ hnext
    have h2 : (2 : Nat) ^ 48 = 281474976710656 := by rfl
    rw [h2]
    exact Nat.not_lt.2 (Nat.le_trans h1 m1)
  have himax : IntKind.max .i64 = 9223372036854775807 := rfl
  have hnm : ¬ (((sLen + n : Nat) : Int) > IntKind.i64.max) := by rw [himax]; omega
  have hnlt : ¬ (sLen + n ≤ sCap) := by omega
  have hsz : ∀ w : World, (_root_.Go.sizeOf e).run P w = .ok i.size w := fun w => by simp [_root_.Go.sizeOf, run_typeInfo hi]
  have hforced : (Question.appendCap (sLen + n) sCap e).forced = false := rfl
  have hti : ∀ w : World, (typeInfo e).run P w = .ok i w := fun w => run_typeInfo hi
  have hnr : ∀ (c : Nat) (cs : Array Value), (_root_.Go.newRow e cs).run P w.drew = .ok ⟨w.heap.size, 0, none⟩ (w.drew.alloc (.cells cs e)) := fun c cs => rfl
  refine ⟨(Question.appendCap (sLen + n) sCap e).cut (w.tape w.drawn (Question.appendCap (sLen + n) sCap e)), by simp [Question.cut], ?_⟩
  cases xT with
  | none =>
    simp only [Builtin.append_, h0, h1, List.getElem?_toArray, List.getElem?_cons_zero, List.getElem?_cons_succ, Sem.run_bind, run_und hu, Result.andThen_ok, hsz, Sem.run_pure, hl, Bool.false_eq_true, if_false, if_neg hnlt, hti, hnm, false_and, if_neg hb48,
      run_choose, hforced, run_askRoom, World.drew_eq, hold, hnew, Bool.not_false, if_true, hz, hnr 0]
  | some xt =>
    simp only [srcOK] at hx
    cases hd : P.underlying xt with
    | none => rw [hd] at hx; cases hx
    | some d =>
      rw [hd] at hx
      cases d <;> first
      | (cases hx; done)
      | simp only [Builtin.append_, h0, h1, List.getElem?_toArray, List.getElem?_cons_zero, List.getElem?_cons_succ, Sem.run_bind, run_und hu, run_und hd, Result.andThen_ok, hsz, Sem.run_pure, hl, Bool.false_eq_true, if_false, if_neg hnlt, hti, hnm, false_and, if_neg hb48,
        run_choose, hforced, run_askRoom, World.drew_eq, hold, hnew, Bool.not_false, if_true, hz, hnr 0]
/-- The model's append where it fits. -/
theorem run_fits {sT e : TypeId} {xT : Option TypeId} {i : TypeInfo} {argTypes : Array TypeId} {ty : TypeId} (h0 : argTypes[0]? = some sT) (h1 : argTypes[1]? = xT) (hu : P.underlying sT = some (.slice e)) (hx : srcOK P xT = true) (hi : P.info? e = some i)
    {base : Option Addr} {sLen sCap n : Nat} {xv : Value} (hl : (Builtin.lenOf xv).run P w = .ok n w) {us : List Value}
    (hnew : (Builtin.firstCells i.size n xv).run P w = .ok ⟨us⟩ w) (hle : sLen + n ≤ sCap) :
    (Builtin.append_ argTypes ty #[.slice base sLen sCap, xv]).run P w = match base with
      | some a => ((_root_.Go.storeCells (a.add (sLen * i.size)) us).run P w).andThen fun _ w' => .ok (.slice base (sLen + n) sCap) w'
      | none => .ok (.slice base (sLen + n) sCap) w := by
  have hsz : ∀ w : World, (_root_.Go.sizeOf e).run P w = .ok i.size w := fun w => by simp [_root_.Go.sizeOf, run_typeInfo hi]
  cases xT with
  | none =>
    cases base <;> simp only [Builtin.append_, h0, h1, List.getElem?_toArray, List.getElem?_cons_zero, List.getElem?_cons_succ, Sem.run_bind, run_und hu, Result.andThen_ok, hsz, Sem.run_pure, hl, Bool.false_eq_true, if_false, if_pos hle, Bool.not_false, if_true, hnew]
  | some xt =>
    simp only [srcOK] at hx
    cases hd : P.underlying xt with
    | none => rw [hd] at hx; cases hx
    | some d =>
      rw [hd] at hx
      cases d <;> first
      | (cases hx; done)
      | cases base <;> simp only [Builtin.append_, h0, h1, List.getElem?_toArray, List.getElem?_cons_zero, List.getElem?_cons_succ, Sem.run_bind, run_und hu, run_und hd, Result.andThen_ok, hsz, Sem.run_pure, hl, Bool.false_eq_true, if_false, if_pos hle, Bool.not_false, if_true, hnew]

theorem cells_all {l : List AV} (h : l.all AV.isCell = true) : ∀ a ∈ l, a.isCell = true := fun a ha => List.all_eq_true.1 h a ha

theorem grow_ok (hh : HRel μ H w) {sT e : TypeId} {xT : Option TypeId} {i : TypeInfo} {z : AV} {argTypes : Array TypeId} {ty : TypeId} (h0 : argTypes[0]? = some sT) (h1 : argTypes[1]? = xT) (hu : P.underlying sT = some (.slice e)) (hx : srcOK P xT = true)
    (hi : P.info? e = some i) (hz : zeroT P e = some z) {base : Option Addr} {sLen sCap n : Nat} {x : AV} {xv : Value} (hxv : VRel μ x xv) {cs : List AV} (hsrc : srcCells H i.size x = some (n, cs)) {old : List AV}
    (hold : ∃ us : List Value, (Builtin.firstCells i.size sLen (.slice base sLen sCap)).run P w.drew = .ok ⟨us⟩ w.drew ∧ VRels μ old us) (hol : old.length = sLen * i.size) (hcl : cs.length = n * i.size) (hlt : sCap < sLen + n) {v : AV} {H1 H' : AHeap} (hh1 : HRel μ H1 w) (ha1 : Adv μ H w μ H1 w)
    {fz : Nat} (hg : growA H1 e i.bytes i.size (sLen + n) z (old ++ cs) fz = some (v, H')) : ValOK P μ H w (Builtin.append_ argTypes ty #[.slice base sLen sCap, xv]) v H' := by
  obtain ⟨zv, hrun0, rfl, hb⟩ := run_zero (P := P) (w := w) hz
  have hzw : ∀ w : World, (zeroValue e).run P w = .ok zv w := fun w => by
    unfold zeroT at hz
    simp only [hi] at hz
    cases hiz : i.zero with
    | none => rw [hiz] at hz; cases hz
    | some z0 =>
      have q1 : ∀ w : World, (zeroValue e).run P w = .ok z0 w := fun w => by simp [zeroValue, run_typeInfo hi, hiz]
      rw [q1] at hrun0
      cases hrun0
      exact q1 w
  obtain ⟨hl, us, hus, hrel⟩ := src_rel (P := P) hh hxv hsrc
  obtain ⟨_, us', hus', hrel'⟩ := src_rel (P := P) hh.drew hxv hsrc
  obtain ⟨os, hos, horel⟩ := hold
  unfold growA at hg
  split at hg
  · rename_i hc
    simp only [Bool.and_eq_true] at hc
    obtain ⟨⟨hroom, hzl⟩, hall⟩ := hc
    cases hg
    obtain ⟨newCap, hn1, hn2⟩ := run_grow (P := P) (w := w) (ty := ty) h0 h1 hu hx hi hzw hl hos hus' hlt hroom
    have hzc := (absV_rel μ zv).cells hb
    have hzl' := Nat.eq_of_beq_eq_true hzl
    have hzs : zv.cells.size = i.size := by have := hzc.length; rw [hzl'] at this; simpa using this.symm
    have hcells : VRels μ (old ++ cs) (os ++ us') := horel.append hrel'
    have hlen1 : os.length = sLen * i.size := by rw [← horel.length, hol]
    have hlen2 : us'.length = n * i.size := by rw [← hrel'.length, hcl]
    have hmul : (sLen + n) * i.size = sLen * i.size + n * i.size := Nat.add_mul _ _ _
    have hmul2 : newCap * i.size = (sLen + n) * i.size + (newCap - (sLen + n)) * i.size := by rw [← Nat.add_mul, Nat.add_sub_of_le hn1]
    have hsize : 0 + newCap * i.size = ((⟨os⟩ : Array Value) ++ ⟨us'⟩ ++ Builtin.zeroCells zv.cells (newCap - (sLen + n))).size := by
      have q1 : (⟨os⟩ : Array Value).size = sLen * i.size := hlen1
      have q2 : (⟨us'⟩ : Array Value).size = n * i.size := hlen2
      have q3 : (Builtin.zeroCells zv.cells (newCap - (sLen + n))).size = (newCap - (sLen + n)) * i.size := by
        unfold Builtin.zeroCells; rw [Array.size_map, Array.size_range, hzs]
      rw [Array.size_append, Array.size_append, q1, q2, q3, hmul2, hmul]
      omega
    have hle := hh1.drew.le_upd ⟨w.heap.size, 0, newCap * i.size⟩
    obtain ⟨r1, r2⟩ := hh1.drew.alloc (.cells (old ++ cs) e .opn 0 fz) (.cells (⟨os⟩ ++ ⟨us'⟩ ++ Builtin.zeroCells zv.cells (newCap - (sLen + n))) e) (newCap * i.size)
      ⟨_, 0, 0, World.heap_alloc_new _ _, fun j a hj => by
        obtain ⟨u, hu', hr⟩ := hcells.get hj
        refine ⟨u, ?_, hr.mono hle⟩
        have hjl : j < (os ++ us').length := by
          rcases Nat.lt_or_ge j (os ++ us').length with h | h
          · exact h
          · rw [List.getElem?_eq_none h] at hu'; cases hu'
        rw [Nat.zero_add, Array.getElem?_append_left (by simpa using hjl)]
        simpa using hu', hsize, by
        refine ⟨?_, fun j _ _ h => by omega⟩
        simp [hol, hcl]; omega⟩
    refine ⟨_, _, _, hn2, ⟨_, upd_same _ _ _, newCap, rfl, hn1, by simp⟩, r1, ?_⟩
    exact ha1.trans hh hh1 (Adv.drew.trans hh1 hh1.drew r2)
  · cases hg
end
end AEv
