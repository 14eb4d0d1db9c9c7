/-
  PROVED HERE: symbolic runs of the evaluator, and that they are sound (Sxa). No condition beside each statement's own.
-/
import Derived.Test.YtlelojncabdnoaaDoorAed
set_option linter.unusedVariables false
set_option linter.unusedSimpArgs false
namespace AEv
open Go

abbrev Env := List (Nat × AV)
def lk (t : Nat) : Env → Option AV
  | [] => none
  | (u, v) :: l => match Nat.beq t u with
    | true => some v
    | false => lk t l
def del (t : Nat) : Env → Env
  | [] => []
  | (u, v) :: l => match Nat.beq t u with
    | true => del t l
    | false => (u, v) :: del t l
def put (t : Nat) (v : AV) (Γ : Env) : Env := (t, v) :: del t Γ
def restr (Γ : Env) : List Nat → Env
  | [] => []
  | t :: l => match lk t Γ with
    | some v => (t, v) :: restr Γ l
    | none => restr Γ l
def Mod (r : Tr) (Γ : Env) : Prop := ∀ t v, lk t Γ = some v → r.get (pth t) = v

structure SSt where
  Γ : Env
  d : List ADef
  q : Rc
  h : AHeap

inductive Hint where
  | v (v : AV)
  | vh (v : AV) (h : AHeap)
  | c (v : AV) (h : AHeap)
  | p (v : AV) (h : AHeap)
  | b (b : Bool)
  | loop (e : AEx) (st : SSt)
  | vo (v : AV) (o : AObj)

def AllP : List Prop → Prop
  | [] => True
  | p :: l => p ∧ AllP l
theorem AllP.cons {p : Prop} {l : List Prop} (h : p) (t : AllP l) : AllP (p :: l) := ⟨h, t⟩
theorem AllP.nil : AllP [] := trivial
theorem AllP.append : ∀ {l m : List Prop}, AllP (l ++ m) → AllP l ∧ AllP m
  | [], m, h => ⟨trivial, h⟩
  | p :: l, m, h => ⟨⟨h.1, (AllP.append h.2).1⟩, (AllP.append h.2).2⟩

def getS (m : Nat) (env : List AV) (Γ : Env) : Acc → Option AV
  | .env j => nth (m - 1 - j) env
  | .reg p => lk p.num Γ
  | .val v => some v

/-- Does an operation ask: not at all; for its value; for its value and memory. -/
def askOf (o : Oper) (g : Operand → AV) : Nat := match o.op with
  | .load .. | .slice .. | .index .. | .indexAddr .. | .lookup .. | .entry .. => 1
  | .binOp op _ x y _ => match op, g x, g y with
    | .eql, .int _ _, .int _ _ | .neq, .int _ _, .int _ _ | .lss, .int _ _, .int _ _ | .leq, .int _ _, .int _ _ | .gtr, .int _ _, .int _ _ | .geq, .int _ _, .int _ _ => 0
    | .eql, .str _, .str _ | .neq, .str _, .str _ | .lss, .str _, .str _ | .leq, .str _, .str _ | .gtr, .str _, .str _ | .geq, .str _, .str _ => 0
    | _, _, _ => 1
  | .unOp op _ _ => match op with
    | .not => 0
    | _ => 1
  | .convert _ _ x => match g x with
    | .str _ => 2
    | _ => 1
  | .range _ x => match g x with
    | .map _ => 2
    | _ => 0
  | .store .. | .mapUpdate .. | .mapEntry .. | .entryStore .. | .insert .. | .next .. | .makeSlice .. => 2
  | .call c => match c.callee with
    | .builtin b => match b with
      | .len => match c.args.toList.map g with
        | [.map _] => 1
        | _ => 0
      | .cap | .min | .max | .unsafeSliceData => 1
      | .append | .copy | .clear | .delete | .unsafeString => 2
      | _ => 0
    | _ => 0
  | _ => 0

def idxS (n : Nat) (s : List UInt8) : Option AV := match nth n s with
  | some b => some (.int .u8 (Int.ofNat b.toNat))
  | none => none
/-- The condition under which an operation yields a value, and leaves memory alone. -/
def conV (P : Program) (o : Oper) (g : Operand → AV) (h : AHeap) (v : AV) : Prop := match o.op with
  | .load t a => match g a, isAggT P t, sizeT P t with
    | .ptr b off, some false, some _ => load1 h b off = some v
    | .ptr b off, some true, some n => match v with
      | .agg cs => loadCells h b off n = some cs
      | _ => False
    | _, _, _ => False
  | .binOp op t x y _ => match g x, g y with
    | .int k a, .int k' b => match op with
      | .shl => shiftA .shl k a b = some v
      | .shr => shiftA .shr k a b = some v
      | op => match decide (k = k') with
        | true => arith op k a b = some v
        | false => False
    | .str a, .str b => strOp op a b = some v
    | a, b => binA P h op t x y a b = some v
  | .slice t x lo hi mx => sliceA P h t (g x) (lo.map g) (hi.map g) (mx.map g) = some v
  | .index t x i => match P.underlying t, g x, asN (g i) with
    | some .string, .str s, some n => idxS n s = some v
    | some (.array m e), .agg cs, some n => match sizeT P e with
      | some sz => n < m ∧ partA P e cs (n * sz) = some v
      | none => False
    | _, _, _ => False
  | .indexAddr t x i => match P.underlying t, g x, asN (g i) with
    | some (.array m e), .ptr b off, some n => match sizeT P e with
      | some sz => n < m ∧ v = .ptr b (off + n * sz)
      | none => False
    | some (.slice e), .slice b off m c, some n => match sizeT P e with
      | some sz => n < m ∧ v = .ptr b (off + n * sz)
      | none => False
    | _, _, _ => False
  | .lookup t x i ok => lookupA P h t (g x) (g i) ok = some v
  | .entry it => entryA h (g it) = some v
  | .unOp op _ x => match op, g x with
    | .neg, .int k n => v = .int k (k.wrap (0 - n))
    | .xor, .int k n => arith .xor k (if k.signed then -1 else k.max) n = some v
    | _, _ => False
  | .convert src dst x => evConvert P src dst (g x) h = .val v h
  | .call c => match c.callee, c.args.toList.map g, c.argTypes[0]? with
    | .builtin .len, [x], some t => lenA P h t x = some v
    | .builtin .cap, [x], some t => capA P t x = some v
    | .builtin .min, x :: l, _ => foldA minA x l = some v
    | .builtin .max, x :: l, _ => foldA maxA x l = some v
    | .builtin .unsafeSliceData, [x], some t => evBuiltin P .unsafeSliceData #[t] [x] h = .val v h
    | _, _, _ => False
  | _ => False
/-- A new slice of zeros. -/
def msA (P : Program) (h : AHeap) (t : TypeId) (l c : AV) : Option (AV × AHeap) := match P.underlying t, asN l, asN c with
  | some (.slice e), some l, some c => match P.info? e, zeroT P e with
    | some i, some z => if l ≤ c && Nat.ble (c * (i.bytes + 1)) 1099511627776 && Nat.beq z.cells.length i.size then (match newRow h e (if c * i.size = 0 then [] else repeatL c z.cells) with
      | some (b, h') => some (.slice b 0 l (.exact c), h')
      | none => none) else none
    | _, _ => none
  | _, _, _ => none
/-- A range over a map begins. -/
def rangeA (h : AHeap) : AV → Option (AV × AHeap)
  | .map m => match h.get m with
    | some (.map _ c) => some (.ptr h.n 0, h.push (.mapIter (some m) c [] c))
    | _ => none
  | _ => none
/-- The condition under which an operation yields a value and leaves memory so. -/
def conH (P : Program) (o : Oper) (g : Operand → AV) (h : AHeap) (v : AV) (h' : AHeap) : Prop := match o.op with
  | .store t a x => match g a with
    | .ptr b off => sizeT P t = some (g x).cells.length ∧ storeCells h b off (g x).cells = some h' ∧ v = .tup []
    | _ => False
  | .convert src dst x => evConvert P src dst (g x) h = .val v h'
  | .mapUpdate t m k x => mapUpdA P h t (g m) (g k) (g x) = some h' ∧ v = .tup []
  | .insert t m k x => mapUpdA P h t (g m) (g k) (g x) = some h' ∧ v = .tup []
  | .mapEntry t m k => mapEntA P h t (g m) (g k) = some (v, h')
  | .entryStore t m s x => entStoreA h (g m) (g s) (g x) = some h' ∧ v = .tup []
  | .next it isStr => nextA h (g it) isStr = some (v, h')
  | .range t x => match P.underlying t with
    | some (.map _ _) => rangeA h (g x) = some (v, h')
    | _ => False
  | .makeSlice t l c => msA P h t (g l) (g c) = some (v, h')
  | .call c => match c.callee, c.args.toList.map g, c.argTypes[0]? with
    | .builtin .append, [x, y], some t => appendA P h t c.argTypes[1]? x y = some (v, h')
    | .builtin .copy, [x, y], some t => copyA P h t x y = some (v, h')
    | .builtin .clear, [x], some t => clearA P h t x = some (v, h')
    | .builtin .delete, [x, y], some t => deleteA P h t x y = some (v, h')
    | .builtin .unsafeString, [x, y], some t => unsafeStrA P h t x y = some (v, h')
    | _, _, _ => False
  | _ => False

inductive SOne where
  | ok (v : AV) (d : List ADef) (q : Rc) (h : AHeap)
  | pan (v : AV) (d : List ADef) (q : Rc) (h : AHeap)
def SOne.res : SOne → SRes
  | .ok v d q h => .ok v d q h
  | .pan v d q h => .pan v d q h

/-- What has come of a symbolic run: or why it goes no further. -/
inductive Rs (α : Type 1) where
  | got (a : α)
  | stop (why : String) (x : Option Bool)
structure SR (α : Type) : Type 1 where
  res : α
  cs : List Prop
  hs : List Hint

/-- A call's hint. -/
def sxCall (call : CallT → List AV → AHeap → FRes) (pos : String) (f : CallT) (args : List AV) (d : List ADef) (q : Rc) (h : AHeap) : List Hint → Rs (SR SOne)
  | .c v h' :: hs => .got ⟨.ok v d q h', [call f args h = .ret v h'], hs⟩
  | .p v h' :: hs => .got ⟨.pan v d q h', [call f args h = .pan v h'], hs⟩
  | _ => .stop ("call " ++ pos) none
def sxOp (P : Program) (inR : Bool) (call : CallT → List AV → AHeap → FRes) (o : Oper) (g : Operand → AV) (d : List ADef) (q : Rc) (h : AHeap) (hs : List Hint) : Rs (SR SOne) :=
  match askOf o g with
  | 0 => match evOp P o g h with
    | .val v h' => .got ⟨.ok v d q h', [], hs⟩
    | .pan v h' => .got ⟨.pan v d q h', [], hs⟩
    | .call f args h' => sxCall call o.pos (.fn f) args d q h' hs
    | .yld l args h' => sxCall call o.pos (.yld l) args d q h' hs
    | .dfr x => match inR with
      | true => .stop "defer" none
      | false => .got ⟨.ok (.tup []) (x :: d) q h, [], hs⟩
    | .rcv => match inR with
      | true => .stop "recover" none
      | false => match q with
        | .none => .got ⟨.ok .nilI d .none h, [], hs⟩
        | .done v => .got ⟨.ok .nilI d (.done v) h, [], hs⟩
        | .act v => .got ⟨.ok v d (.done v) h, [], hs⟩
    | .fail w => .stop (w ++ " " ++ o.pos) none
  | 1 => match hs with
    | .v v :: hs => .got ⟨.ok v d q h, [conV P o g h v], hs⟩
    | _ => .stop ("value " ++ o.pos) none
  | _ => match hs with
    | .vh v h' :: hs => .got ⟨.ok v d q h', [conH P o g h v h'], hs⟩
    | _ => .stop ("value and memory " ++ o.pos) none
/-- A choice between two values is told. -/
def sxPick (o : Oper) (g : Operand → AV) (d : List ADef) (q : Rc) (h : AHeap) (hs : List Hint) : Option (Rs (SR SOne)) := match o.op with
  | .pick c a b => match g c with
    | .bool x => match hs with
      | .b true :: hs => some (.got ⟨.ok (g a) d q h, [x = true], hs⟩)
      | .b false :: hs => some (.got ⟨.ok (g b) d q h, [x = false], hs⟩)
      | _ => some (.stop ("pick " ++ o.pos) (some x))
    | _ => some (.stop ("pick of what " ++ o.pos) none)
  | _ => none
def sxDo (P : Program) (inR : Bool) (call : CallT → List AV → AHeap → FRes) (o : Oper) (g : Operand → AV) (d : List ADef) (q : Rc) (h : AHeap) (hs : List Hint) : Rs (SR SOne) := match sxPick o g d q h hs with
  | some r => r
  | none => sxOp P inR call o g d q h hs
def sxOne (P : Program) (inR : Bool) (call : CallT → List AV → AHeap → FRes) (gd : Option (AV × Bool)) (o : Oper) (g : Operand → AV) (d : List ADef) (q : Rc) (h : AHeap) (hs : List Hint) : Rs (SR SOne) :=
  match gd with
  | none => sxDo P inR call o g d q h hs
  | some (.bool x, b) => match hs with
    | .b c :: hs => match c == b with
      | true => match sxDo P inR call o g d q h hs with
        | .got ⟨s, cs, hs⟩ => .got ⟨s, (x = c) :: cs, hs⟩
        | .stop w x => .stop w x
      | false => .got ⟨.ok (.tup []) d q h, [x = c], hs⟩
    | _ => .stop ("guard " ++ o.pos) (some x)
  | some (.tup [], _) => .got ⟨.ok (.tup []) d q h, [], hs⟩
  | _ => .stop ("guard of what " ++ o.pos) none

/-- All operands are known. -/
def knownS (P : Program) (need m : Nat) (env : List AV) (Γ : Env) (loc : List (Nat × Acc)) (o : Oper) : Bool := o.op.operands.toList.all fun x => (getS m env Γ (accOf P need loc x)).isSome
def gS (P : Program) (need m : Nat) (env : List AV) (Γ : Env) (loc : List (Nat × Acc)) (x : Operand) : AV := (getS m env Γ (accOf P need loc x)).getD .bad

/-- A guard's value. -/
def guardS (env : List AV) (Γ : Env) (s : Step) : Option (Option (AV × Bool)) := match s.guard with
  | none => some none
  | some (a, b) => match getS s.m env Γ a with
    | some v => some (some (v, b))
    | none => none
def sxSteps (P : Program) (need : Nat) (inR : Bool) (call : CallT → List AV → AHeap → FRes) (Γ : Env) : List Step → List AV → List ADef → Rc → AHeap → List Hint → Rs (SR RRes)
  | [], env, d, q, h, hs => .got ⟨.ok env d q h, [], hs⟩
  | s :: rest, env, d, q, h, hs =>
    match knownS P need s.m env Γ s.loc s.o with
    | false => .stop ("an operand " ++ s.o.pos) none
    | true =>
      match guardS env Γ s with
      | none => .stop ("guard " ++ s.o.pos) none
      | some gd => match sxOne P inR call gd s.o (gS P need s.m env Γ s.loc) d q h hs with
        | .got ⟨.ok v d' q' h', cs, hs'⟩ => match sxSteps P need inR call Γ rest (v :: env) d' q' h' hs' with
          | .got ⟨x, cs', hs''⟩ => .got ⟨x, cs ++ cs', hs''⟩
          | .stop w x => .stop w x
        | .got ⟨.pan v d' q' h', cs, hs'⟩ => .got ⟨.pan v d' q' h', cs, hs'⟩
        | .stop w x => .stop w x

def outsS (need m : Nat) (env : List AV) (Γ0 : Env) : List (Nat × Acc) → Env → Env
  | [], Γ => Γ
  | (t, a) :: l, Γ =>
    match Nat.testBit need t with
    | true => match getS m env Γ0 a with
      | some v => put t v (outsS need m env Γ0 l Γ)
      | none => del t (outsS need m env Γ0 l Γ)
    | false => outsS need m env Γ0 l Γ
def invalS : List (Nat × Acc) → Env → Env
  | [], Γ => Γ
  | (t, _) :: l, Γ => del t (invalS l Γ)

/-- So many names are kept back. -/
def AHeap.room (h : AHeap) (k : Nat) : AHeap := ⟨h.t, h.n + k⟩
@[simp] theorem AHeap.get_room (h : AHeap) (k b : Nat) : (h.room k).get b = h.get b := rfl
@[simp] theorem AHeap.n_room (h : AHeap) (k : Nat) : (h.room k).n = h.n + k := rfl
abbrev Sts := List (Nat × Nat × AHeap)
structure SDs where
  env : List AV
  d : List ADef
  q : Rc
  h : AHeap
  sts : Sts

def dguardS (P : Program) (need : Nat) (ops : Array Oper) (n : Nat) (env : List AV) (Γ : Env) (s : DStep) : Option (Option (AV × Bool)) := match guardAcc P need ops s.loc s.o with
  | none => some none
  | some (a, b) => match getS n env Γ a with
    | some v => some (some (v, b))
    | none => none
def ordS (s : DStep) : Sts → Bool
  | [] => true
  | (e, _, _) :: _ => Nat.testBit s.bef e

/-- A row, laid in a drawn region. -/
def msO (P : Program) (t : TypeId) (l c : AV) (b : Nat) : Option (AV × AObj) := match P.underlying t, asN l, asN c with
  | some (.slice e), some l, some c => match P.info? e, zeroT P e with
    | some i, some z => match decide (l ≤ c) && Nat.ble (c * (i.bytes + 1)) 1099511627776 && Nat.beq z.cells.length i.size, (if c * i.size = 0 then [] else repeatL c z.cells) with
      | true, cs => match cs.all AV.isCell with
        | true => some (.slice b 0 l (.exact c), .cells cs e .own 0 0)
        | false => none
      | _, _ => none
    | _, _ => none
  | _, _, _ => none
def conO (P : Program) (op : Op) (g : Operand → AV) (b : Nat) (v : AV) (o : AObj) : Prop := match op with
  | .makeSlice t l c => msO P t (g l) (g c) b = some (v, o)
  | _ => False
theorem conO_ok {P : Program} {op : Op} {g : Operand → AV} {b : Nat} {v : AV} {o : AObj} (h : conO P op g b v o) : allocA P op g b = some (v, o) := by
  cases op <;> first | exact h | exact absurd h id
/-- A new block, in a drawn region. -/
def sxNew (P : Program) (gd : Option (AV × Bool)) (s : DStep) (g : Operand → AV) (b : Nat) (st : SDs) (hs : List Hint) : Rs (SR SDs) :=
  match gd with
  | none => match hs with
    | .vo v o :: hs => .got ⟨⟨v :: st.env, st.d, st.q, st.h.set b (some o), st.sts⟩, [conO P s.o.op g b v o], hs⟩
    | hs => match allocA P s.o.op g b with
      | some (v, o) => .got ⟨⟨v :: st.env, st.d, st.q, st.h.set b (some o), st.sts⟩, [], hs⟩
      | none => .stop ("alloc " ++ s.o.pos) none
  | some (.bool x, c) => match hs with
    | .b y :: hs => match y == c with
      | true => match allocA P s.o.op g b with
        | some (v, o) => .got ⟨⟨v :: st.env, st.d, st.q, st.h.set b (some o), st.sts⟩, [x = y], hs⟩
        | none => .stop ("alloc " ++ s.o.pos) none
      | false => .got ⟨⟨.tup [] :: st.env, st.d, st.q, st.h, st.sts⟩, [x = y], hs⟩
    | _ => .stop ("guard " ++ s.o.pos) (some x)
  | some (.tup [], _) => .got ⟨⟨.tup [] :: st.env, st.d, st.q, st.h, st.sts⟩, [], hs⟩
  | _ => .stop ("guard of what " ++ s.o.pos) none
/-- A step of a drawn region. -/
def sxDStep (P : Program) (need : Nat) (inR : Bool) (call : CallT → List AV → AHeap → FRes) (ops : Array Oper) (Γ : Env) (b0 : Nat) (s : DStep) (st : SDs) (hs : List Hint) : Rs (SR SDs) :=
  match knownS P need s.i st.env Γ s.loc s.o with
  | false => .stop ("an operand " ++ s.o.pos) none
  | true => match dguardS P need ops s.i st.env Γ s with
    | none => .stop ("guard " ++ s.o.pos) none
    | some gd => match kindOf P s.o.op with
      | .alloc => sxNew P gd s (gS P need s.i st.env Γ s.loc) (b0 + s.i) st hs
      | .pure => match sxOne P inR call gd s.o (gS P need s.i st.env Γ s.loc) st.d st.q st.h hs with
        | .got ⟨.ok v _ _ _, cs, hs'⟩ => .got ⟨⟨v :: st.env, st.d, st.q, st.h, st.sts⟩, cs, hs'⟩
        | .got ⟨.pan _ _ _ _, _, _⟩ => .stop ("a panic " ++ s.o.pos) none
        | .stop w x => .stop w x
      | .eff => match ordS s st.sts with
        | false => .stop ("order " ++ s.o.pos) none
        | true => match sxOne P inR call gd s.o (gS P need s.i st.env Γ s.loc) st.d st.q st.h hs with
          | .got ⟨.ok v d' q' h', cs, hs'⟩ => .got ⟨⟨v :: st.env, d', q', h', (s.i, s.bef, st.h) :: st.sts⟩, cs, hs'⟩
          | .got ⟨.pan _ _ _ _, _, _⟩ => .stop ("a panic " ++ s.o.pos) none
          | .stop w x => .stop w x
def sxD (P : Program) (need : Nat) (inR : Bool) (call : CallT → List AV → AHeap → FRes) (ops : Array Oper) (Γ : Env) (b0 : Nat) : List DStep → SDs → List Hint → Rs (SR SDs)
  | [], st, hs => .got ⟨st, [], hs⟩
  | s :: rest, st, hs => match sxDStep P need inR call ops Γ b0 s st hs with
    | .got ⟨st', cs, hs'⟩ => match sxD P need inR call ops Γ b0 rest st' hs' with
      | .got ⟨y, cs', hs''⟩ => .got ⟨y, cs ++ cs', hs''⟩
      | .stop w x => .stop w x
    | .stop w x => .stop w x
/-- A step of a drawn region that panics: an effect; all that is left waits for it. -/
def sxDPan (P : Program) (need : Nat) (inR : Bool) (call : CallT → List AV → AHeap → FRes) (ops : Array Oper) (Γ : Env) (s : DStep) (rest : List DStep) (st : SDs) (hs : List Hint) : Rs (SR (AV × SDs)) :=
  match knownS P need s.i st.env Γ s.loc s.o with
  | false => .stop ("an operand " ++ s.o.pos) none
  | true => match dguardS P need ops s.i st.env Γ s with
    | none => .stop ("guard " ++ s.o.pos) none
    | some gd => match kindOf P s.o.op with
      | .eff => match ordS s st.sts with
        | false => .stop ("order " ++ s.o.pos) none
        | true => match sxOne P inR call gd s.o (gS P need s.i st.env Γ s.loc) st.d st.q st.h hs with
          | .got ⟨.pan v d' q' h', cs, hs'⟩ => match rest.all (fun s' => Nat.testBit s'.bef s.i) with
            | true => .got ⟨(v, ⟨st.env, d', q', h', (s.i, s.bef, st.h) :: st.sts⟩), cs, hs'⟩
            | false => .stop ("panic " ++ s.o.pos) none
          | _ => .stop ("no panic " ++ s.o.pos) none
      | _ => .stop ("no panic " ++ s.o.pos) none
def sxDp (P : Program) (need : Nat) (inR : Bool) (call : CallT → List AV → AHeap → FRes) (ops : Array Oper) (Γ : Env) (b0 : Nat) : List DStep → SDs → List Hint → Rs (SR (AV × SDs))
  | [], _, _ => .stop "no panic" none
  | s :: rest, st, hs => match sxDPan P need inR call ops Γ s rest st hs with
    | .got y => .got y
    | .stop _ _ => match sxDStep P need inR call ops Γ b0 s st hs with
      | .got ⟨st', cs, hs'⟩ => match sxDp P need inR call ops Γ b0 rest st' hs' with
        | .got ⟨y, cs', hs''⟩ => .got ⟨y, cs ++ cs', hs''⟩
        | .stop w x => .stop w x
      | .stop w x => .stop w x

mutual
def AV.sound : AV → Bool
  | .bad => false
  | .fn _ a b => soundL a && soundL b
  | .iface _ v => v.sound
  | .agg l => soundL l
  | .tup l => soundL l
  | _ => true
def soundL : List AV → Bool
  | [] => true
  | a :: l => a.sound && soundL l
end
/-- A choice between two values by a truth value. -/
def pickX (o : Oper) (g : Operand → AV) : Option (Bool × AV × AV) := match o.op with
  | .pick c a b => match g c with
    | .bool x => some (x, g a, g b)
    | _ => none
  | _ => none
/-- An operation that only looks, at another state of memory: the same value. -/
def LookP (P : Program) (o : Oper) (g : Operand → AV) (h : AHeap) (v : AV) : List Prop := match pickX o g with
  | some (x, a, b) => [v.sound = true, cond x a b = v]
  | none => match askOf o g with
    | 1 => [v.sound = true, conV P o g h v]
    | _ => match evOp P o g h with
      | .val v' _ => [v.sound = true, v' = v]
      | _ => [False]
def lookS (P : Program) (need : Nat) (ops : Array Oper) (Γ : Env) (n : Nat) (env : List AV) (s : DStep) (v : AV) (h : AHeap) : List Prop :=
  match knownS P need n env Γ s.loc s.o, dguardS P need ops n env Γ s with
  | true, some gd => match gd with
    | none => LookP P s.o (gS P need n env Γ s.loc) h v
    | some (.bool x, b) => match v with
      | .tup [] => [(x == b) = false]
      | v => LookP P s.o (gS P need n env Γ s.loc) h v
    | some (.tup [], _) => []
    | _ => [False]
  | _, _ => [False]
def skipB (s : DStep) (nx : Option Nat) (sts : Sts) : Bool := (match nx with | none => false | some e => Nat.testBit s.bef e) || (match sts with | [] => false | (_, m, _) :: _ => Nat.testBit m s.i)
def statesS (P : Program) (need : Nat) (ops : Array Oper) (Γ : Env) (n : Nat) (env : List AV) (s : DStep) (v : AV) : Option Nat → AHeap → Sts → List Prop
  | nx, h, sts =>
    (match skipB s nx sts with
      | true => []
      | false => lookS P need ops Γ n env s v h) ++
    (match sts with
      | [] => []
      | (e, _, h') :: rest => statesS P need ops Γ n env s v (some e) h' rest)
def looksS (P : Program) (need : Nat) (ops : Array Oper) (Γ : Env) (n : Nat) (env : List AV) (h : AHeap) (sts : Sts) : List DStep → List Prop
  | [] => []
  | s :: rest => (match Nat.blt s.i n, kindOf P s.o.op with
      | true, .pure => statesS P need ops Γ n env s ((nth (n - 1 - s.i) env).getD .bad) none h sts
      | _, _ => []) ++ looksS P need ops Γ n env h sts rest

def looksL (P : Program) (need : Nat) (ops : Array Oper) (Γ : Env) (n : Nat) (env : List AV) (last : Option Nat) (h : AHeap) (sts : Sts) : List DStep → List Prop
  | [] => []
  | s :: rest => (match Nat.blt s.i n, kindOf P s.o.op with
      | true, .pure => statesS P need ops Γ n env s ((nth (n - 1 - s.i) env).getD .bad) last h sts
      | _, _ => []) ++ looksL P need ops Γ n env last h sts rest
/-- A drawn region that panics. -/
def sxDrawP (P : Program) (need : Nat) (inR : Bool) (call : CallT → List AV → AHeap → FRes) (ops : Array Oper) (st : SSt) (hs : List Hint) : Rs (SR (AEx × SSt)) :=
  match sxDp P need inR call ops st.Γ st.h.n (dplan ops.toList 0 [] []) ⟨[], st.d, st.q, st.h.room ops.size, []⟩ hs with
  | .got ⟨(v, ⟨env, d, q, h, (e, m, h0) :: sts⟩), cs, hs'⟩ => .got ⟨(.pan v, ⟨invalS (dloc ops.toList 0 []) st.Γ, d, q, h⟩), cs ++ looksL P need ops st.Γ env.length env (some e) h0 sts (dplan ops.toList 0 [] []), hs'⟩
  | .got _ => .stop "no panic" none
  | .stop w x => .stop w x
/-- A drawn region. -/
def sxDraw (P : Program) (need : Nat) (inR : Bool) (call : CallT → List AV → AHeap → FRes) (ops : Array Oper) (st : SSt) (hs : List Hint) : Rs (SR (AEx × SSt)) :=
  match sxD P need inR call ops st.Γ st.h.n (dplan ops.toList 0 [] []) ⟨[], st.d, st.q, st.h.room ops.size, []⟩ hs with
  | .got ⟨⟨env, d, q, h, sts⟩, cs, hs'⟩ => .got ⟨(.nrm, ⟨outsS need env.length env st.Γ (dloc ops.toList 0 []) st.Γ, d, q, h⟩), cs ++ looksS P need ops st.Γ env.length env h sts (dplan ops.toList 0 [] []), hs'⟩
  | .stop _ _ => sxDrawP P need inR call ops st hs

/-- What a piece of code does to a state. -/
def RunP (P : Program) (need : Nat) (rd : Option Nat) (call : CallT → List AV → AHeap → FRes) (c : Code) (st : SSt) (e : AEx) (st' : SSt) : Prop :=
  ∀ r, Mod r st.Γ → ∃ r', evCode P need rd call c r st.d st.q st.h = .ok e r' st'.d st'.q st'.h ∧ Mod r' st'.Γ

def sxReg (need : Nat) (Γ : Env) (loc : List (Nat × Acc)) : RRes → Option (AEx × SSt)
  | .ok env d q h => some (.nrm, ⟨outsS need env.length env Γ loc Γ, d, q, h⟩)
  | .pan v d q h => some (.pan v, ⟨invalS loc Γ, d, q, h⟩)
  | .fail _ => none
def sx (P : Program) (need : Nat) (rd : Option Nat) (call : CallT → List AV → AHeap → FRes) : Code → SSt → List Hint → Rs (SR (AEx × SSt))
  | .skip, st, hs => .got ⟨(.nrm, st), [], hs⟩
  | .label _, st, hs => .got ⟨(.nrm, st), [], hs⟩
  | .exit id, st, hs => .got ⟨(.exit id, st), [], hs⟩
  | .ret, st, hs => .got ⟨(.ret, st), [], hs⟩
  | .scope b, st, hs => sx P need rd call b st hs
  | .region id ops draw, st, hs =>
    match draw with
    | false =>
      match sxSteps P need rd.isSome call st.Γ (planOf P need ops).steps [] st.d st.q st.h hs with
      | .got ⟨x, cs, hs'⟩ => match sxReg need st.Γ (planOf P need ops).loc x with
        | some r => .got ⟨r, cs, hs'⟩
        | none => .stop "region" none
      | .stop w x => .stop w x
    | true => sxDraw P need rd.isSome call ops st hs
  | .seq a b, st, hs => match sx P need rd call a st hs with
    | .got ⟨(.nrm, st'), cs, hs'⟩ => match sx P need rd call b st' hs' with
      | .got ⟨r, cs', hs''⟩ => .got ⟨r, cs ++ cs', hs''⟩
      | .stop w x => .stop w x
    | x => x
  | .cond c a b, st, hs => match getS 0 [] st.Γ (accOf P need [] c) with
    | some (.bool x) => match hs with
      | .b true :: hs => match sx P need rd call a st hs with
        | .got ⟨r, cs, hs'⟩ => .got ⟨r, (x = true) :: cs, hs'⟩
        | .stop w x => .stop w x
      | .b false :: hs => match sx P need rd call b st hs with
        | .got ⟨r, cs, hs'⟩ => .got ⟨r, (x = false) :: cs, hs'⟩
        | .stop w x => .stop w x
      | _ => .stop "if" (some x)
    | _ => .stop "if what" none
  | .block id b, st, hs => match sx P need rd call b st hs with
    | .got ⟨(.exit i, st'), cs, hs'⟩ => match Nat.beq i id with
      | true => .got ⟨(.nrm, st'), cs, hs'⟩
      | false => .got ⟨(.exit i, st'), cs, hs'⟩
    | x => x
  | .loop b, st, hs => match hs with
    | .loop e st' :: hs => .got ⟨(e, st'), [RunP P need rd call (.loop b) st e st'], hs⟩
    | _ => .stop "loop" none
  | .rangeFunc f ps as bd, st, hs => match hs with
    | .loop e st' :: hs => .got ⟨(e, st'), [RunP P need rd call (.rangeFunc f ps as bd) st e st'], hs⟩
    | _ => .stop "range over a function" none
  | .goto _, _, _ => .stop "goto" none
  | .refuse _, _, _ => .stop "refuse" none
end AEv

namespace AEv
open Go

theorem num_inj : ∀ (p q : Pth), p.num = q.num → p = q
  | .here, .here, _ => rfl
  | .here, .l q, h => by simp only [Pth.num] at h; omega
  | .here, .r q, h => by simp only [Pth.num] at h; omega
  | .l p, .here, h => by simp only [Pth.num] at h; omega
  | .r p, .here, h => by simp only [Pth.num] at h; omega
  | .l p, .l q, h => by rw [num_inj p q (by simp only [Pth.num] at h; omega)]
  | .r p, .r q, h => by rw [num_inj p q (by simp only [Pth.num] at h; omega)]
  | .l p, .r q, h => by simp only [Pth.num] at h; omega
  | .r p, .l q, h => by simp only [Pth.num] at h; omega
theorem pth_of_num (p : Pth) : pth p.num = p := num_inj _ _ (pth_num _)

theorem beq_cases (t u : Nat) : (t = u ∧ Nat.beq t u = true) ∨ (t ≠ u ∧ Nat.beq t u = false) := by
  by_cases h : t = u
  · exact .inl ⟨h, by simp [h]⟩
  · refine .inr ⟨h, ?_⟩
    cases hb : Nat.beq t u with
    | false => rfl
    | true => exact absurd (Nat.eq_of_beq_eq_true hb) h
theorem lk_del (t u : Nat) : ∀ Γ : Env, lk t (del u Γ) = if t = u then none else lk t Γ
  | [] => by simp [del, lk]
  | (x, v) :: l => by
    have ih := lk_del t u l
    simp only [del]
    rcases beq_cases u x with ⟨e, hb⟩ | ⟨e, hb⟩
    · rw [hb]; simp only [ih, lk]
      subst e
      rcases beq_cases t u with ⟨e2, hb2⟩ | ⟨e2, hb2⟩
      · rw [if_pos e2, if_pos e2]
      · rw [if_neg e2, if_neg e2, hb2]
    · rw [hb]; simp only [lk, ih]
      rcases beq_cases t x with ⟨e2, hb2⟩ | ⟨e2, hb2⟩
      · rw [hb2]; simp only []
        rw [if_neg]
        intro h; exact e (by rw [← h, e2])
      · rw [hb2]
theorem lk_put (t u : Nat) (v : AV) (Γ : Env) : lk t (put u v Γ) = if t = u then some v else lk t Γ := by
  simp only [put, lk]
  rcases beq_cases t u with ⟨e, hb⟩ | ⟨e, hb⟩
  · rw [hb, if_pos e]
  · rw [hb, if_neg e, lk_del, if_neg e]
theorem Mod.put {r : Tr} {Γ : Env} (h : Mod r Γ) (t : Nat) (v : AV) : Mod (r.set (pth t) v) (put t v Γ) := by
  intro u x hx
  rw [lk_put] at hx
  rw [Tr.get_set]
  by_cases e : u = t
  · rw [if_pos e] at hx ⊢; cases hx; rfl
  · rw [if_neg e] at hx ⊢; exact h u x hx
theorem Mod.del {r : Tr} {Γ : Env} (h : Mod r Γ) (t : Nat) (v : AV) : Mod (r.set (pth t) v) (del t Γ) := by
  intro u x hx
  rw [lk_del] at hx
  rw [Tr.get_set]
  by_cases e : u = t
  · rw [if_pos e] at hx; cases hx
  · rw [if_neg e] at hx ⊢; exact h u x hx
theorem lk_restr (Γ : Env) (t : Nat) (v : AV) : ∀ l, lk t (restr Γ l) = some v → lk t Γ = some v
  | [], h => by simp [restr, lk] at h
  | u :: l, h => by
    simp only [restr] at h
    cases hu : lk u Γ with
    | none => rw [hu] at h; exact lk_restr Γ t v l h
    | some x =>
      rw [hu] at h
      simp only [lk] at h
      rcases beq_cases t u with ⟨e, hb⟩ | ⟨e, hb⟩
      · rw [hb] at h; rw [e, hu]; exact h
      · rw [hb] at h; exact lk_restr Γ t v l h
theorem Mod.restr {r : Tr} {Γ : Env} (h : Mod r Γ) (l : List Nat) : Mod r (restr Γ l) := fun t v ht => h t v (lk_restr Γ t v l ht)

theorem getS_ok {m : Nat} {env : List AV} {r : Tr} {Γ : Env} (hm : Mod r Γ) {a : Acc} {v : AV} (h : getS m env Γ a = some v) : getAcc m env r a = v := by
  cases a with
  | env j => simp only [getS] at h; simp only [getAcc, h, Option.getD_some]
  | reg p => simp only [getS] at h; simp only [getAcc]; rw [← pth_of_num p]; exact hm _ _ h
  | val x => cases h; rfl

section
variable {P : Program}

theorem conV_ok {o : Oper} {g : Operand → AV} {h : AHeap} {v : AV} (hc : conV P o g h v) : evOp P o g h = .val v h := by
  obtain ⟨dst, op, type, pos, after, guard⟩ := o
  cases op <;> simp only [conV] at hc <;> (try exact hc.elim)
  case load t a =>
    split at hc
    · rename_i b off n hg ha hn
      simp only [evOp, hg, ha, hc, ofVal]
    · rename_i b off n hg ha hn
      split at hc
      · simp only [evOp, hg, ha, hn, hc]
      · exact hc.elim
    · exact hc.elim
  case binOp op t x y yt =>
    split at hc
    · rename_i k a k' b hx hy
      split at hc
      · simp only [evOp, hx, hy, binA, hc, ofVal]
      · simp only [evOp, hx, hy, binA, hc, ofVal]
      · rename_i hs1 hs2
        split at hc
        · rename_i hk
          have hk' : k = k' := of_decide_eq_true hk
          simp only [evOp, hx, hy, binA]
          cases op <;> first | exact absurd rfl hs1 | exact absurd rfl hs2 | (simp only [if_pos hk', hc, ofVal])
        · exact hc.elim
    · rename_i a b hx hy
      simp only [evOp, hx, hy, binA, hc, ofVal]
    · simp only [evOp, hc, ofVal]
  case unOp op t x =>
    split at hc
    · rename_i k n hx; simp only [evOp, hx, hc]
    · rename_i k n hx; simp only [evOp, hx, hc, ofVal]
    · exact hc.elim
  case slice t x lo hi mx => simp only [evOp, hc, ofVal]
  case index t x i =>
    split at hc
    · rename_i s n hu hx hi
      unfold idxS at hc
      simp only [evOp, hu, hx, hi]
      split at hc
      · rename_i bb hb; cases hc; simp only [hb]
      · cases hc
    · rename_i m e cs n hu hx hi
      split at hc
      · rename_i sz hsz
        simp only [evOp, hu, hx, hi, hsz, if_pos hc.1, hc.2, ofVal]
      · exact hc.elim
    · exact hc.elim
  case indexAddr t x i =>
    split at hc
    · rename_i m e b off n hu hx hi
      split at hc
      · rename_i sz hsz
        simp only [evOp, hu, hx, hi, hsz, if_pos hc.1, hc.2]
      · exact hc.elim
    · rename_i e b off m c n hu hx hi
      split at hc
      · rename_i sz hsz
        simp only [evOp, hu, hx, hi, hsz, if_pos hc.1, hc.2]
      · exact hc.elim
    · exact hc.elim
  case lookup t x i ok => simp only [evOp, hc, ofVal]
  case entry it => simp only [evOp, hc, ofVal]
  case convert src dst x => simp only [evOp, hc]
  case call c =>
    split at hc
    · rename_i x t hcal hargs ht; simp only [evOp, hcal, hargs, evBuiltin, ht, hc, ofVal]
    · rename_i x t hcal hargs ht; simp only [evOp, hcal, hargs, evBuiltin, ht, hc, ofVal]
    · rename_i x l _ hcal hargs; simp only [evOp, hcal, hargs, evBuiltin, hc, ofVal]
    · rename_i x l _ hcal hargs; simp only [evOp, hcal, hargs, evBuiltin, hc, ofVal]
    · rename_i x t hcal hargs ht
      simp only [evOp, hcal, hargs]
      simp only [evBuiltin, ht] at hc ⊢
      exact hc
    · exact hc.elim
theorem putCells_bad : ∀ (n : Nat) (cs cs' : List AV), putCells n [AV.bad] cs = some cs' → False
  | 0, [], _, h => by simp [putCells] at h
  | 0, _ :: _, _, h => by simp [putCells, AV.isCell] at h
  | _ + 1, [], _, h => by simp [putCells] at h
  | n + 1, c :: cs, cs', h => by
    simp only [putCells] at h
    split at h
    · rename_i r hr; exact putCells_bad n cs r hr
    · cases h
theorem storeCells_bad {h h' : AHeap} {b off : Nat} (hs : AEv.storeCells h b off (AV.cells .bad) = some h') : False := by
  unfold AEv.storeCells at hs
  split at hs
  · split at hs
    · split at hs
      · rename_i hp; exact putCells_bad _ _ _ hp
      · cases hs
    · cases hs
  · cases hs
theorem conH_ok {o : Oper} {g : Operand → AV} {h h' : AHeap} {v : AV} (hc : conH P o g h v h') : evOp P o g h = .val v h' := by
  obtain ⟨dst, op, type, pos, after, guard⟩ := o
  cases op <;> simp only [conH] at hc <;> (try exact hc.elim)
  case store t a x =>
    split at hc
    · rename_i b off hg
      obtain ⟨h1, h2, rfl⟩ := hc
      simp only [evOp, hg]
      rw [h1]
      have hb : g x ≠ .bad := fun hb => by
        rw [hb] at h2
        exact storeCells_bad h2
      cases hgx : g x <;> first | exact absurd hgx hb | (rw [hgx] at h2; simp [h2, ofH])
    · exact hc.elim
  case convert src dst x => simp only [evOp, hc]
  case mapUpdate t m k x => obtain ⟨h1, rfl⟩ := hc; simp only [evOp, h1, ofH]
  case insert t m k x => obtain ⟨h1, rfl⟩ := hc; simp only [evOp, h1, ofH]
  case mapEntry t m k => simp only [evOp, hc, ofValH]
  case entryStore t m s x => obtain ⟨h1, rfl⟩ := hc; simp only [evOp, h1, ofH]
  case next it isStr => simp only [evOp, hc, ofValH]
  case range t x =>
    split at hc
    · rename_i kt et hu
      unfold rangeA at hc
      split at hc
      · rename_i m hg
        split at hc
        · rename_i es c hm
          cases hc
          simp only [evOp, hu, hg, hm]
        · cases hc
      · cases hc
    · exact hc.elim
  case makeSlice t l c =>
    unfold msA at hc
    simp only [evOp]
    split at hc
    · rename_i e l' c' hu hl hcc
      split at hc
      · rename_i i z hi hz
        simp only [hu, hl, hcc, hi, hz]
        split at hc
        · rename_i hcond
          rw [if_pos hcond]
          split at hc
          · rename_i b hh hn; cases hc; simp only [hn]
          · cases hc
        · cases hc
      · cases hc
    · cases hc
  case call c =>
    split at hc
    · rename_i x y t hcal hargs ht; simp only [evOp, hcal, hargs, evBuiltin, ht, hc, ofValH]
    · rename_i x y t hcal hargs ht; simp only [evOp, hcal, hargs, evBuiltin, ht, hc, ofValH]
    · rename_i x t hcal hargs ht; simp only [evOp, hcal, hargs, evBuiltin, ht, hc, ofValH]
    · rename_i x y t hcal hargs ht; simp only [evOp, hcal, hargs, evBuiltin, ht, hc, ofValH]
    · rename_i x y t hcal hargs ht; simp only [evOp, hcal, hargs, evBuiltin, ht, hc, ofValH]
    · exact hc.elim

variable {inR : Bool} {call : CallT → List AV → AHeap → FRes}

theorem sxCall_ok {pos : String} {f : CallT} {args : List AV} {d : List ADef} {q : Rc} {h : AHeap} {hs : List Hint} {y : SR SOne} (hx : sxCall call pos f args d q h hs = .got y) (hc : AllP y.cs) : ofF d q (call f args h) = y.res.res := by
  unfold sxCall at hx
  split at hx
  · cases hx; rw [hc.1]; rfl
  · cases hx; rw [hc.1]; rfl
  · cases hx

theorem sxOp_ok {o : Oper} {g : Operand → AV} {d : List ADef} {q : Rc} {h : AHeap} {hs : List Hint} {y : SR SOne} (hx : sxOp P inR call o g d q h hs = .got y) (hc : AllP y.cs) :
    evOne P inR call none o g d q h = y.res.res := by
  unfold sxOp at hx
  unfold evOne
  simp only [wantedA]
  split at hx
  · split at hx
    · rename_i hev; cases hx; rw [hev]; rfl
    · rename_i hev; cases hx; rw [hev]; rfl
    · rename_i hev; rw [hev]; exact sxCall_ok hx hc
    · rename_i hev; rw [hev]; exact sxCall_ok hx hc
    · rename_i z hev
      split at hx
      · cases hx
      · cases hx; rw [hev]; rfl
    · rename_i hev
      split at hx
      · cases hx
      · split at hx
        · cases hx; rw [hev]; rfl
        · cases hx; rw [hev]; rfl
        · cases hx; rw [hev]; rfl
    · cases hx
  · split at hx
    · cases hx
      rw [conV_ok hc.1]; rfl
    · cases hx
  · split at hx
    · cases hx
      rw [conH_ok hc.1]; rfl
    · cases hx

theorem sxDo_ok {o : Oper} {g : Operand → AV} {d : List ADef} {q : Rc} {h : AHeap} {hs : List Hint} {y : SR SOne} (hx : sxDo P inR call o g d q h hs = .got y) (hc : AllP y.cs) :
    evOne P inR call none o g d q h = y.res.res := by
  unfold sxDo at hx
  cases hp : sxPick o g d q h hs with
  | none => rw [hp] at hx; exact sxOp_ok hx hc
  | some z =>
    rw [hp] at hx
    simp only at hx
    subst hx
    unfold sxPick at hp
    split at hp
    · rename_i cnd a b hop
      split at hp
      · rename_i bb hg
        split at hp
        · cases hp
          obtain ⟨rfl, _⟩ := hc
          unfold evOne evOp
          simp [wantedA, hop, hg, SOne.res]
        · cases hp
          obtain ⟨rfl, _⟩ := hc
          unfold evOne evOp
          simp [wantedA, hop, hg, SOne.res]
        · cases hp
      · cases hp
    · cases hp

theorem evOne_wanted {gd : Option (AV × Bool)} (hw : wantedA gd = some true) (o : Oper) (g : Operand → AV) (d : List ADef) (q : Rc) (h : AHeap) : evOne P inR call gd o g d q h = evOne P inR call none o g d q h := by
  unfold evOne
  rw [hw]
  rfl
theorem evOne_skip {gd : Option (AV × Bool)} (hw : wantedA gd = some false) (o : Oper) (g : Operand → AV) (d : List ADef) (q : Rc) (h : AHeap) : evOne P inR call gd o g d q h = .ok (.tup []) d q h := by
  unfold evOne
  simp only [hw]

theorem sxOne_ok {gd : Option (AV × Bool)} {o : Oper} {g : Operand → AV} {d : List ADef} {q : Rc} {h : AHeap} {hs : List Hint} {y : SR SOne} (hx : sxOne P inR call gd o g d q h hs = .got y) (hc : AllP y.cs) :
    evOne P inR call gd o g d q h = y.res.res := by
  unfold sxOne at hx
  split at hx
  · exact sxDo_ok hx hc
  · rename_i xb b
    split at hx
    · rename_i c hs1
      split at hx
      · rename_i hcb
        split at hx
        · rename_i s cs1 hs2 hin
          cases hx
          obtain ⟨rfl, hc2⟩ := hc
          rw [evOne_wanted (by simp only [wantedA]; rw [hcb])]
          exact (sxDo_ok hin hc2 :)
        · cases hx
      · rename_i hcb
        cases hx
        obtain ⟨rfl, _⟩ := hc
        rw [evOne_skip (by simp only [wantedA]; rw [hcb])]; rfl
    · cases hx
  · cases hx
    rw [evOne_skip rfl]; rfl
  · cases hx

variable {need : Nat}

theorem gS_known {m : Nat} {env : List AV} {r : Tr} {Γ : Env} (hm : Mod r Γ) {loc : List (Nat × Acc)} {o : Oper} (hk : knownS P need m env Γ loc o = true) : ∀ x ∈ o.op.operands, getAcc m env r (accOf P need loc x) = gS P need m env Γ loc x := by
  intro x hx
  unfold knownS at hk
  rw [List.all_eq_true] at hk
  have := hk x (by simpa using hx)
  obtain ⟨v, hv⟩ := Option.isSome_iff_exists.1 this
  unfold gS
  rw [hv, getS_ok hm hv]; rfl

theorem sxSteps_ok {r : Tr} {Γ : Env} (hm : Mod r Γ) : ∀ (l : List Step) (env : List AV) (d : List ADef) (q : Rc) (h : AHeap) (hs : List Hint) (y : SR RRes), sxSteps P need inR call Γ l env d q h hs = .got y → AllP y.cs →
    evSteps P need inR call r l env d q h = y.res
  | [], env, d, q, h, hs, y, hx, hc => by cases hx; rfl
  | s :: rest, env, d, q, h, hs, y, hx, hc => by
    simp only [sxSteps] at hx
    split at hx
    · cases hx
    · rename_i hk
      split at hx
      · cases hx
      · rename_i gd hgd
        have key : ∀ z, evOne P inR call gd s.o (gS P need s.m env Γ s.loc) d q h = z → evSteps P need inR call r (s :: rest) env d q h = match z with
            | .ok v d' q' h' => evSteps P need inR call r rest (v :: env) d' q' h'
            | .pan v d' q' h' => .pan v d' q' h'
            | .fail w => .fail w := fun z hz => by
          simp only [evSteps]
          rw [← hz, ← evOne_congr (gS_known hm hk)]
          unfold guardS at hgd
          cases hgu : s.guard with
          | none => rw [hgu] at hgd; cases hgd; rfl
          | some p =>
            obtain ⟨a, b⟩ := p
            rw [hgu] at hgd
            simp only at hgd
            cases hv : getS s.m env Γ a with
            | none => rw [hv] at hgd; cases hgd
            | some v => rw [hv] at hgd; cases hgd; simp only [getS_ok hm hv]; rfl
        split at hx
        · rename_i v d' q' h' cs1 hs1 hone
          split at hx
          · rename_i z cs2 hs2 hrest
            cases hx
            obtain ⟨c1, c2⟩ := AllP.append hc
            have h1 := sxOne_ok hone c1
            have h1' : evOne P inR call gd s.o (gS P need s.m env Γ s.loc) d q h = .ok v d' q' h' := h1
            rw [key _ h1']
            exact (sxSteps_ok hm rest (v :: env) d' q' h' hs1 _ hrest c2 :)
          · cases hx
        · rename_i v d' q' h' cs1 hs1 hone
          cases hx
          have h1 := sxOne_ok hone hc
          have h1' : evOne P inR call gd s.o (gS P need s.m env Γ s.loc) d q h = .pan v d' q' h' := h1
          rw [key _ h1']
        · cases hx

theorem outs_mod {m : Nat} {env : List AV} {r0 : Tr} {Γ0 : Env} (hm : Mod r0 Γ0) : ∀ (l : List (Nat × Acc)) (r : Tr) (Γ : Env), Mod r Γ → Mod (setOuts need m env r0 l r) (outsS need m env Γ0 l Γ)
  | [], r, Γ, h => h
  | (t, a) :: l, r, Γ, h => by
    have ih := outs_mod (m := m) (env := env) hm l r Γ h
    simp only [setOuts, outsS]
    cases Nat.testBit need t with
    | false => exact ih
    | true =>
      simp only
      cases hg : getS m env Γ0 a with
      | some v => simp only; rw [getS_ok hm hg]; exact ih.put t v
      | none => simp only; exact ih.del t _
theorem inval_mod : ∀ (l : List (Nat × Acc)) (r : Tr) (Γ : Env), Mod r Γ → Mod (inval l r) (invalS l Γ)
  | [], r, Γ, h => h
  | (t, a) :: l, r, Γ, h => (inval_mod l r Γ h).del t _

mutual
theorem sound_beq : ∀ v : AV, v.sound = true → AV.beq v v = true
  | .bool b, _ => by simp [AV.beq]
  | .int k n, _ => by simp [AV.beq, eqI]
  | .str s, _ => by simp [AV.beq, beqBytes_eq]
  | .nilP, _ => rfl
  | .ptr a i, _ => by simp [AV.beq]
  | .nilS, _ => rfl
  | .slice a i n c, _ => by cases c <;> simp [AV.beq, Cap.beq]
  | .nilM, _ => rfl
  | .map a, _ => by simp [AV.beq]
  | .nilF, _ => rfl
  | .fn f a b, h => by
    simp only [AV.sound, Bool.and_eq_true] at h
    simp only [AV.beq, sound_beqs a h.1, sound_beqs b h.2, Bool.and_true]
    simp
  | .yld a, _ => by simp [AV.beq]
  | .nilI, _ => rfl
  | .iface t v, h => by
    simp only [AV.sound] at h
    simp only [AV.beq, sound_beq v h, Bool.and_true]
    simp
  | .agg l, h => by
    simp only [AV.sound] at h
    simp only [AV.beq, sound_beqs l h]
  | .tup l, h => by
    simp only [AV.sound] at h
    simp only [AV.beq, sound_beqs l h]
  | .bad, h => by simp [AV.sound] at h
theorem sound_beqs : ∀ l : List AV, soundL l = true → AV.beqs l l = true
  | [], _ => rfl
  | a :: l, h => by
    simp only [soundL, Bool.and_eq_true] at h
    simp only [AV.beqs, sound_beq a h.1, sound_beqs l h.2, Bool.and_true]
end

theorem dguardS_ok {ops : Array Oper} {r : Tr} {Γ : Env} (hm : Mod r Γ) {n : Nat} {env : List AV} {s : DStep} {gd : Option (AV × Bool)} (h : dguardS P need ops n env Γ s = some gd) : dguard P need ops r n env s = gd := by
  unfold dguardS at h
  unfold dguard
  split at h
  · rename_i hg; rw [hg]; cases h; rfl
  · rename_i a b hg
    rw [hg]
    split at h
    · rename_i v hv
      cases h
      simp only [getS_ok hm hv]
    · cases h

/-- What a step leads to. -/
def DNext (P : Program) (need : Nat) (inR : Bool) (call : CallT → List AV → AHeap → FRes) (ops : Array Oper) (r : Tr) (b0 : Nat) (s : DStep) (st st' : SDs) : Prop :=
  ∀ rest, evD P need inR call ops r b0 (s :: rest) st.env st.d st.q st.h st.sts = evD P need inR call ops r b0 rest st'.env st'.d st'.q st'.h st'.sts

theorem sxDStep_ok {ops : Array Oper} {r : Tr} {Γ : Env} (hm : Mod r Γ) {b0 : Nat} {s : DStep} {st : SDs} {hs : List Hint} {y : SR SDs} (hx : sxDStep P need inR call ops Γ b0 s st hs = .got y) (hc : AllP y.cs) : DNext P need inR call ops r b0 s st y.res := by
  intro rest
  unfold sxDStep at hx
  split at hx
  · cases hx
  · rename_i hk
    have hg := gS_known hm hk
    split at hx
    · cases hx
    · rename_i gd hgd
      have hd := dguardS_ok hm hgd
      split at hx
      · rename_i hkind
        have ha := allocA_congr (P := P) (o := s.o.op) (b := b0 + s.i) hg
        simp only [evD, hkind, hd]
        rw [ha]
        unfold sxNew at hx
        split at hx
        · split at hx
          · cases hx
            have hal := conO_ok hc.1
            simp only [wantedA, hal]
          · split at hx
            · rename_i v o hal
              cases hx
              simp only [wantedA, hal]
            · cases hx
        · split at hx
          · rename_i x c _ y1 hs1
            split at hx
            · rename_i hyc
              split at hx
              · rename_i v o hal
                cases hx
                obtain ⟨rfl, _⟩ := hc
                simp only [wantedA, hyc, hal]
              · cases hx
            · rename_i hyc
              cases hx
              obtain ⟨rfl, _⟩ := hc
              simp only [wantedA, hyc]
          · cases hx
        · cases hx
          simp only [wantedA]
        · cases hx
      · rename_i hkind
        simp only [evD, hkind, hd]
        rw [evOne_congr hg]
        split at hx
        · rename_i v d' q' h' cs1 hs1 hone
          cases hx
          have h1 := sxOne_ok hone hc
          have h1' : evOne P inR call gd s.o (gS P need s.i st.env Γ s.loc) st.d st.q st.h = .ok v d' q' h' := h1
          rw [h1']
        · cases hx
        · cases hx
      · rename_i hkind
        split at hx
        · cases hx
        · rename_i hord
          simp only [evD, hkind, hd]
          rw [evOne_congr hg]
          split at hx
          · rename_i v d' q' h' cs1 hs1 hone
            cases hx
            have h1 := sxOne_ok hone hc
            have h1' : evOne P inR call gd s.o (gS P need s.i st.env Γ s.loc) st.d st.q st.h = .ok v d' q' h' := h1
            rw [h1']
            cases hst : st.sts with
            | nil => rfl
            | cons a l =>
              obtain ⟨e, m, hh⟩ := a
              rw [hst] at hord
              simp only [ordS] at hord
              simp only [hord]
          · cases hx
          · cases hx

theorem sxD_ok {ops : Array Oper} {r : Tr} {Γ : Env} (hm : Mod r Γ) {b0 : Nat} : ∀ (l : List DStep) (st : SDs) (hs : List Hint) (y : SR SDs), sxD P need inR call ops Γ b0 l st hs = .got y → AllP y.cs →
    evD P need inR call ops r b0 l st.env st.d st.q st.h st.sts = .ok y.res.env y.res.d y.res.q y.res.h y.res.sts
  | [], st, hs, y, hx, hc => by cases hx; rfl
  | s :: rest, st, hs, y, hx, hc => by
    simp only [sxD] at hx
    split at hx
    · rename_i st1 cs1 hs1 h1
      split at hx
      · rename_i y2 cs2 hs2 h2
        cases hx
        obtain ⟨c1, c2⟩ := AllP.append hc
        rw [sxDStep_ok hm h1 c1 rest]
        exact (sxD_ok hm rest st1 hs1 ⟨y2, cs2, hs2⟩ h2 c2 :)
      · cases hx
    · cases hx

theorem LookP_ok {o : Oper} {g : Operand → AV} {h : AHeap} {v : AV} (hc : AllP (LookP P o g h v)) : ∃ v' h', evOp P o g h = .val v' h' ∧ AV.beq v' v = true := by
  unfold LookP at hc
  split at hc
  · rename_i x a b hp
    obtain ⟨h1, h2, _⟩ := hc
    refine ⟨v, h, ?_, sound_beq v h1⟩
    unfold pickX at hp
    split at hp
    · rename_i c a' b' ho
      split at hp
      · rename_i x' hgc
        cases hp
        cases x <;> simp only [evOp, ho, hgc] <;> rw [← h2] <;> rfl
      · cases hp
    · cases hp
  split at hc
  · exact ⟨v, h, conV_ok hc.2.1, sound_beq v hc.1⟩
  · split at hc
    · rename_i v' h' he
      obtain ⟨h1, rfl, _⟩ := hc
      exact ⟨v', h', he, sound_beq v' h1⟩
    · exact hc.1.elim
theorem lookS_ok {ops : Array Oper} {r : Tr} {Γ : Env} (hm : Mod r Γ) {n : Nat} {env : List AV} {s : DStep} {v : AV} {h : AHeap} (hc : AllP (lookS P need ops Γ n env s v h)) : looksOK P need ops r n env s v h = true := by
  unfold lookS at hc
  unfold looksOK
  split at hc
  · rename_i gd hk hgd
    rw [dguardS_ok hm hgd]
    have hg := gS_known hm hk
    have key : AllP (LookP P s.o (gS P need n env Γ s.loc) h v) → (match evOp P s.o (fun x => getAcc n env r (accOf P need s.loc x)) h with
        | .val v' _ => AV.beq v' v
        | _ => false) = true := fun hl => by
      rw [evOp_congr s.o h hg]
      obtain ⟨v', h', e1, e2⟩ := LookP_ok hl
      rw [e1]; exact e2
    split at hc
    · simp only [wantedA]; exact key hc
    · rename_i x b
      simp only [wantedA]
      split at hc
      · obtain ⟨hf, _⟩ := hc
        rw [hf]
      · cases hxb : (x == b) with
        | false => rfl
        | true => exact key hc
    · rfl
    · exact hc.1.elim
  · exact hc.1.elim
theorem statesOK_eq {ops : Array Oper} {r : Tr} {n : Nat} {env : List AV} {s : DStep} {v : AV} (nx : Option Nat) (h : AHeap) (sts : Sts) : statesOK P need ops r n env s v nx h sts =
    ((match skipB s nx sts with | true => true | false => looksOK P need ops r n env s v h) && (match sts with | [] => true | (e, _, h') :: rest => statesOK P need ops r n env s v (some e) h' rest)) := by
  cases sts <;> (rw [statesOK.eq_def]; rfl)
theorem statesS_ok {ops : Array Oper} {r : Tr} {Γ : Env} (hm : Mod r Γ) {n : Nat} {env : List AV} {s : DStep} {v : AV} : ∀ (sts : Sts) (nx : Option Nat) (h : AHeap), AllP (statesS P need ops Γ n env s v nx h sts) → statesOK P need ops r n env s v nx h sts = true
  | [], nx, h, hc => by
    rw [statesOK_eq]
    unfold statesS at hc
    obtain ⟨c1, _⟩ := AllP.append hc
    cases hb : skipB s nx [] with
    | true => rfl
    | false => rw [hb] at c1; simp only [Bool.and_true]; exact lookS_ok hm c1
  | (e, m, h') :: rest, nx, h, hc => by
    rw [statesOK_eq]
    unfold statesS at hc
    obtain ⟨c1, c2⟩ := AllP.append hc
    have ih := statesS_ok hm rest (some e) h' c2
    cases hb : skipB s nx ((e, m, h') :: rest) with
    | true => simp only [Bool.true_and]; exact ih
    | false =>
      rw [hb] at c1
      simp only
      rw [lookS_ok hm c1, Bool.true_and]; exact ih
theorem looksS_ok {ops : Array Oper} {r : Tr} {Γ : Env} (hm : Mod r Γ) {n : Nat} {env : List AV} {h : AHeap} {sts : Sts} : ∀ (l : List DStep), AllP (looksS P need ops Γ n env h sts l) → looksAll P need ops r n env none h sts l = true
  | [], _ => rfl
  | s :: rest, hc => by
    simp only [looksS] at hc
    obtain ⟨c1, c2⟩ := AllP.append hc
    simp only [looksAll]
    rw [looksS_ok hm rest c2, Bool.and_true]
    cases h1 : Nat.blt s.i n with
    | false => rfl
    | true =>
      rw [h1] at c1
      cases h2 : kindOf P s.o.op with
      | pure => rw [h2] at c1; exact statesS_ok hm sts none h c1
      | alloc => rfl
      | eff => rfl

theorem sxDPan_ok {ops : Array Oper} {r : Tr} {Γ : Env} (hm : Mod r Γ) {b0 : Nat} {s : DStep} {rest : List DStep} {st : SDs} {hs : List Hint} {y : SR (AV × SDs)} (hx : sxDPan P need inR call ops Γ s rest st hs = .got y) (hc : AllP y.cs) :
    evD P need inR call ops r b0 (s :: rest) st.env st.d st.q st.h st.sts = .pan y.res.1 y.res.2.env y.res.2.d y.res.2.q y.res.2.h y.res.2.sts := by
  unfold sxDPan at hx
  split at hx
  · cases hx
  · rename_i hk
    have hg := gS_known hm hk
    split at hx
    · cases hx
    · rename_i gd hgd
      have hd := dguardS_ok hm hgd
      split at hx
      · rename_i hkind
        split at hx
        · cases hx
        · rename_i hord
          simp only [evD, hkind, hd]
          rw [evOne_congr hg]
          split at hx
          · rename_i v d' q' h' cs1 hs1 hone
            split at hx
            · rename_i hall
              cases hx
              have h1 := sxOne_ok hone hc
              have h1' : evOne P inR call gd s.o (gS P need s.i st.env Γ s.loc) st.d st.q st.h = .pan v d' q' h' := h1
              rw [h1']
              cases hst : st.sts with
              | nil => simp only [hall]
              | cons a l =>
                obtain ⟨e, m, hh⟩ := a
                rw [hst] at hord
                simp only [ordS] at hord
                simp only [hord, hall]
            · cases hx
          · cases hx
      · cases hx
theorem sxDp_ok {ops : Array Oper} {r : Tr} {Γ : Env} (hm : Mod r Γ) {b0 : Nat} : ∀ (l : List DStep) (st : SDs) (hs : List Hint) (y : SR (AV × SDs)), sxDp P need inR call ops Γ b0 l st hs = .got y → AllP y.cs →
    evD P need inR call ops r b0 l st.env st.d st.q st.h st.sts = .pan y.res.1 y.res.2.env y.res.2.d y.res.2.q y.res.2.h y.res.2.sts
  | [], st, hs, y, hx, hc => by cases hx
  | s :: rest, st, hs, y, hx, hc => by
    simp only [sxDp] at hx
    split at hx
    · rename_i y1 h1
      cases hx
      exact sxDPan_ok hm h1 hc
    · split at hx
      · rename_i st1 cs1 hs1 h1
        split at hx
        · rename_i y2 cs2 hs2 h2
          cases hx
          obtain ⟨c1, c2⟩ := AllP.append hc
          rw [sxDStep_ok hm h1 c1 rest]
          exact (sxDp_ok hm rest st1 hs1 ⟨y2, cs2, hs2⟩ h2 c2 :)
        · cases hx
      · cases hx
theorem looksL_ok {ops : Array Oper} {r : Tr} {Γ : Env} (hm : Mod r Γ) {n : Nat} {env : List AV} {last : Option Nat} {h : AHeap} {sts : Sts} : ∀ (l : List DStep), AllP (looksL P need ops Γ n env last h sts l) → looksAll P need ops r n env last h sts l = true
  | [], _ => rfl
  | s :: rest, hc => by
    simp only [looksL] at hc
    obtain ⟨c1, c2⟩ := AllP.append hc
    simp only [looksAll]
    rw [looksL_ok hm rest c2, Bool.and_true]
    cases h1 : Nat.blt s.i n with
    | false => rfl
    | true =>
      rw [h1] at c1
      cases h2 : kindOf P s.o.op with
      | pure => rw [h2] at c1; exact statesS_ok hm sts last h c1
      | alloc => rfl
      | eff => rfl
theorem sxDrawP_ok {id : Nat} {ops : Array Oper} {rd : Option Nat} {st : SSt} {hs : List Hint} {y : SR (AEx × SSt)} (hx : sxDrawP P need rd.isSome call ops st hs = .got y) (hc : AllP y.cs) : RunP P need rd call (.region id ops true) st y.res.1 y.res.2 := by
  unfold sxDrawP at hx
  split at hx
  · rename_i v env d q h e m h0 sts cs1 hs1 hd
    cases hx
    obtain ⟨c1, c2⟩ := AllP.append hc
    intro r hm
    have h1 := sxDp_ok hm _ _ _ _ hd c1
    have h2 := looksL_ok hm _ c2
    simp only at h1
    refine ⟨_, ?_, inval_mod _ _ _ hm⟩
    have h1' : evD P need rd.isSome call ops r st.h.n (dplan ops.toList 0 [] []) [] st.d st.q ⟨st.h.t, st.h.n + ops.size⟩ [] = .pan v env d q h ((e, m, h0) :: sts) := h1
    simp only [evCode, evDraw, h1', h2, toC]
  · cases hx
  · cases hx
theorem sxDraw_ok {id : Nat} {ops : Array Oper} {rd : Option Nat} {st : SSt} {hs : List Hint} {y : SR (AEx × SSt)} (hx : sxDraw P need rd.isSome call ops st hs = .got y) (hc : AllP y.cs) : RunP P need rd call (.region id ops true) st y.res.1 y.res.2 := by
  unfold sxDraw at hx
  split at hx
  · rename_i env d q h sts cs1 hs1 hd
    cases hx
    obtain ⟨c1, c2⟩ := AllP.append hc
    intro r hm
    have h1 := sxD_ok hm _ _ _ _ hd c1
    have h2 := looksS_ok hm _ c2
    simp only at h1
    refine ⟨_, ?_, outs_mod hm _ _ _ hm⟩
    have h1' : evD P need rd.isSome call ops r st.h.n (dplan ops.toList 0 [] []) [] st.d st.q ⟨st.h.t, st.h.n + ops.size⟩ [] = .ok env d q h sts := h1
    simp only [evCode, evDraw, h1', h2, toC]
  · exact sxDrawP_ok hx hc

variable {rd : Option Nat}

theorem sx_ok : ∀ (c : Code) (st : SSt) (hs : List Hint) (y : SR (AEx × SSt)), sx P need rd call c st hs = .got y → AllP y.cs → RunP P need rd call c st y.res.1 y.res.2
  | .skip, st, hs, y, hx, hc => by cases hx; exact fun r hr => ⟨r, rfl, hr⟩
  | .label _, st, hs, y, hx, hc => by cases hx; exact fun r hr => ⟨r, rfl, hr⟩
  | .exit id, st, hs, y, hx, hc => by cases hx; exact fun r hr => ⟨r, rfl, hr⟩
  | .ret, st, hs, y, hx, hc => by cases hx; exact fun r hr => ⟨r, rfl, hr⟩
  | .scope b, st, hs, y, hx, hc => sx_ok b st hs y hx hc
  | .region id ops draw, st, hs, y, hx, hc => by
    simp only [sx] at hx
    cases draw with
    | true => exact sxDraw_ok hx hc
    | false =>
      simp only at hx
      split at hx
      · rename_i x cs1 hs1 hst
        split at hx
        · rename_i r1 hreg
          cases hx
          intro r hr
          have h1 := sxSteps_ok hr _ _ _ _ _ _ _ hst hc
          simp only at h1
          simp only [evCode, h1]
          cases x with
          | ok env d q h => cases hreg; exact ⟨_, rfl, outs_mod hr _ _ _ hr⟩
          | pan v d q h => cases hreg; exact ⟨_, rfl, inval_mod _ _ _ hr⟩
          | fail w => cases hreg
        · cases hx
      · cases hx
  | .seq a b, st, hs, y, hx, hc => by
    simp only [sx] at hx
    split at hx
    · rename_i st1 cs1 hs1 ha
      split at hx
      · rename_i r2 cs2 hs2 hb
        cases hx
        obtain ⟨c1, c2⟩ := AllP.append hc
        intro r hr
        obtain ⟨r1, h1, m1⟩ := sx_ok a st hs _ ha c1 r hr
        obtain ⟨r2, h2, m2⟩ := sx_ok b st1 hs1 _ hb c2 r1 m1
        exact ⟨r2, by simp only at h1 h2; simp only [evCode, h1, thenC, h2], m2⟩
      · cases hx
    · rename_i hne
      intro r hr
      obtain ⟨r1, h1, m1⟩ := sx_ok a st hs y hx hc r hr
      refine ⟨r1, ?_, m1⟩
      simp only [evCode, h1]
      refine thenC_other (fun e' => ?_)
      obtain ⟨⟨e1, st1⟩, cs1, hs1⟩ := y
      simp only at e'
      subst e'
      exact hne _ _ _ hx
  | .cond c a b, st, hs, y, hx, hc => by
    simp only [sx] at hx
    split at hx
    · rename_i x hg
      split at hx
      · split at hx
        · rename_i r1 cs1 hs1 ha
          cases hx
          obtain ⟨rfl, c1⟩ := hc
          intro r hr
          obtain ⟨r1, h1, m1⟩ := sx_ok a st _ _ ha c1 r hr
          exact ⟨r1, by simp only at h1; simp only [evCode, getS_ok hr hg, h1], m1⟩
        · cases hx
      · split at hx
        · rename_i r1 cs1 hs1 ha
          cases hx
          obtain ⟨rfl, c1⟩ := hc
          intro r hr
          obtain ⟨r1, h1, m1⟩ := sx_ok b st _ _ ha c1 r hr
          exact ⟨r1, by simp only at h1; simp only [evCode, getS_ok hr hg, h1], m1⟩
        · cases hx
      · cases hx
    · cases hx
  | .block id b, st, hs, y, hx, hc => by
    simp only [sx] at hx
    split at hx
    · rename_i i st1 cs1 hs1 hb
      split at hx
      · rename_i hi
        cases hx
        obtain rfl := Nat.eq_of_beq_eq_true hi
        intro r hr
        obtain ⟨r1, h1, m1⟩ := sx_ok b st hs _ hb hc r hr
        exact ⟨r1, by simp only at h1; simp only [evCode, h1, if_true], m1⟩
      · rename_i hi
        cases hx
        intro r hr
        obtain ⟨r1, h1, m1⟩ := sx_ok b st hs _ hb hc r hr
        have hne : ¬ i = id := by intro e'; subst e'; simp at hi
        exact ⟨r1, by simp only at h1; simp only [evCode, h1, if_neg hne], m1⟩
    · rename_i hne
      intro r hr
      obtain ⟨r1, h1, m1⟩ := sx_ok b st hs y hx hc r hr
      refine ⟨r1, ?_, m1⟩
      obtain ⟨⟨e1, st1⟩, cs1, hs1⟩ := y
      simp only at h1
      simp only [evCode, h1]
      cases e1 <;> first | rfl | exact absurd hx (hne _ _ _ _)
  | .loop b, st, hs, y, hx, hc => by
    simp only [sx] at hx
    split at hx
    · cases hx; exact hc.1
    · cases hx
  | .rangeFunc f ps as bd, st, hs, y, hx, hc => by
    simp only [sx] at hx
    split at hx
    · cases hx; exact hc.1
    · cases hx
  | .goto _, st, hs, y, hx, hc => by cases hx
  | .refuse _, st, hs, y, hx, hc => by cases hx
end
end AEv

namespace AEv
open Go

/-- A piece of code within another. -/
def sub : Code → List Nat → Code
  | c, [] => c
  | .seq a _, 0 :: l => sub a l
  | .seq _ b, _ :: l => sub b l
  | .cond _ a _, 0 :: l => sub a l
  | .cond _ _ b, _ :: l => sub b l
  | .block _ b, _ :: l => sub b l
  | .loop b, _ :: l => sub b l
  | .scope b, _ :: l => sub b l
  | .rangeFunc _ _ a _, 0 :: l => sub a l
  | .rangeFunc _ _ _ b, _ :: l => sub b l
  | c, _ :: _ => c
def bodyOf (fn : Func) : Code := fn.body.getD .skip

def SubL : Env → Env → Prop
  | [], _ => True
  | (t, v) :: l, Γ => lk t Γ = some v ∧ SubL l Γ
theorem SubL.ok : ∀ {Γ2 Γ : Env}, SubL Γ2 Γ → ∀ t v, lk t Γ2 = some v → lk t Γ = some v
  | [], Γ, _, t, v, h => by simp [lk] at h
  | (u, x) :: l, Γ, ⟨h1, h2⟩, t, v, h => by
    simp only [lk] at h
    rcases beq_cases t u with ⟨e, hb⟩ | ⟨e, hb⟩
    · rw [hb] at h; cases h; rw [e]; exact h1
    · rw [hb] at h; exact SubL.ok h2 t v h
theorem Mod.sub {r : Tr} {Γ Γ2 : Env} (h : Mod r Γ) (hs : SubL Γ2 Γ) : Mod r Γ2 := fun t v ht => h t v (hs.ok t v ht)

section
variable {P : Program} {need : Nat} {rd : Option Nat} {call : CallT → List AV → AHeap → FRes}

/-- A symbolic run: its end, what is kept of the registers, its conditions. -/
def sxEnd (keep : List Nat) : Rs (SR (AEx × SSt)) → Option (SR (AEx × SSt))
  | .got ⟨(e, ⟨Γ, d, q, h⟩), cs, []⟩ => some ⟨(e, ⟨restr Γ keep, d, q, h⟩), cs, []⟩
  | _ => none
theorem sx_run {c : Code} {st : SSt} {hs : List Hint} {e : AEx} {st' : SSt} {cs : List Prop} (keep : List Nat) (hx : sxEnd keep (sx P need rd call c st hs) = some ⟨(e, st'), cs, []⟩) (hc : AllP cs) : RunP P need rd call c st e st' := by
  unfold sxEnd at hx
  split at hx
  · rename_i e1 Γ1 d1 q1 h1 cs1 hsx
    cases hx
    intro r hr
    obtain ⟨r1, h1, m1⟩ := sx_ok c st hs _ hsx hc r hr
    exact ⟨r1, h1, m1.restr keep⟩
  · cases hx

theorem RunP.pre {c : Code} {st st1 st' : SSt} {e : AEx} (h : RunP P need rd call c st e st') (hs : SubL st.Γ st1.Γ) (hd : st1.d = st.d) (hq : st1.q = st.q) (hh : st1.h = st.h) : RunP P need rd call c st1 e st' := by
  intro r hr
  obtain ⟨r1, h1, m1⟩ := h r (hr.sub hs)
  exact ⟨r1, by rw [hd, hq, hh]; exact h1, m1⟩
def argsG : Nat → List AV → Env
  | _, [] => []
  | i, v :: l => (i, v) :: argsG (i + 1) l
theorem argsG_lk (t : Nat) (v : AV) : ∀ (l : List AV) (i : Nat), lk t (argsG i l) = some v → i ≤ t ∧ t < i + l.length ∧ l[t - i]? = some v
  | [], i, h => by simp [argsG, lk] at h
  | x :: l, i, h => by
    simp only [argsG, lk] at h
    rcases beq_cases t i with ⟨e, hb⟩ | ⟨e, hb⟩
    · rw [hb] at h; cases h; subst e; simp
    · rw [hb] at h
      obtain ⟨h1, h2, h3⟩ := argsG_lk t v l (i + 1) h
      refine ⟨by omega, by simp; omega, ?_⟩
      have : t - i = (t - (i + 1)) + 1 := by omega
      rw [this]; simpa using h3
theorem args_mod (args : List AV) : Mod (initRegs 0 args .leaf) (argsG 0 args) := by
  intro t v h
  obtain ⟨h1, h2, h3⟩ := argsG_lk t v args 0 h
  rw [initRegs_get, if_pos ⟨h1, h2⟩, h3]; rfl

def oneS (P : Program) (need : Nat) (Γ : Env) (h : AHeap) (x : ResultVar) : Option AV :=
  match x with
  | .tmp t => match Nat.testBit need t with
    | true => lk t Γ
    | false => none
  | .cell t ty => match Nat.testBit need t with
    | true => match lk t Γ with
      | none => none
      | some p => match p, isAggT P ty, sizeT P ty with
        | .ptr b off, some true, some n => (match loadCells h b off n with | some cs => some (.agg cs) | none => none)
        | .ptr b off, some false, _ => load1 h b off
        | _, _, _ => none
    | false => none
theorem oneS_ok {Γ : Env} {r : Tr} (hm : Mod r Γ) {h : AHeap} {x : ResultVar} {v : AV} (hx : oneS P need Γ h x = some v) : oneA P need r h x = some v := by
  cases x with
  | tmp t =>
    simp only [oneS, oneA] at hx ⊢
    split at hx
    · rename_i hb
      rw [hb]; simp only [hm t v hx]
    · cases hx
  | cell t ty =>
    simp only [oneS, oneA] at hx ⊢
    split at hx
    · rename_i hb
      rw [hb]
      simp only
      cases hl : lk t Γ with
      | none => rw [hl] at hx; simp at hx
      | some p => rw [hl] at hx; rw [hm t p hl]; exact hx
    · cases hx
def resS (P : Program) (need : Nat) (fn : Func) (Γ : Env) (h : AHeap) : Option AV :=
  match allA (oneS P need Γ h) fn.results.toList with
  | some [v] => some v
  | some vs => some (.tup vs)
  | none => none
theorem allS_ok {Γ : Env} {r : Tr} (hm : Mod r Γ) {h : AHeap} : ∀ (l : List ResultVar) (vs : List AV), allA (oneS P need Γ h) l = some vs → allA (oneA P need r h) l = some vs
  | [], vs, hx => hx
  | x :: l, vs, hx => by
    simp only [allA] at hx ⊢
    cases h1 : oneS P need Γ h x with
    | none => rw [h1] at hx; simp at hx
    | some v =>
      rw [h1] at hx
      cases h2 : allA (oneS P need Γ h) l with
      | none => rw [h2] at hx; simp at hx
      | some ws =>
        rw [h2] at hx
        rw [oneS_ok hm h1, allS_ok hm l ws h2]; exact hx
theorem resS_ok {Γ : Env} {r : Tr} (hm : Mod r Γ) {h : AHeap} {fn : Func} {v : AV} (hx : resS P need fn Γ h = some v) : resultsA P need fn r h = some v := by
  unfold resS at hx
  unfold resultsA
  cases ha : allA (oneS P need Γ h) fn.results.toList with
  | none => rw [ha] at hx; cases hx
  | some vs =>
    rw [ha] at hx
    rw [allS_ok hm _ _ ha]; exact hx

variable {intr : Nat → List AV → AHeap → Option (AV × AHeap)}

/-- A function without deferred calls. -/
theorem fn_run {f : Nat} {fn : Func} {c : Code} {n : Nat} {args : List AV} {h : AHeap} (hf : P.funcs[f]? = some fn) (hb : fn.body = some c) (hn : needFn fn = need) (hi : intr f args h = none) (hle : Nat.ble args.length fn.ntmps = true)
    {e : AEx} {Γ : Env} {q : Rc} {h' : AHeap} (hrun : RunP P need none (callN P intr n) c ⟨argsG 0 args, [], .none, h⟩ e ⟨Γ, [], q, h'⟩) (he : e = .ret ∨ e = .nrm) {v : AV} (hres : resS P need fn Γ h' = some v) :
    callN P intr (n + 1) (.fn f) args h = .ret v h' := by
  subst hn
  obtain ⟨r1, h1, m1⟩ := hrun _ (args_mod args)
  have hr := resS_ok m1 hres
  simp only [callN, hi, evFn, hf, hb, evBody, hle, h1]
  rcases he with rfl | rfl <;> simp only [leaveA, evDefers, hr]
/-- A piece of a function's code, by its place. -/
abbrev RunF (P : Program) (fn : Func) (rd : Option Nat) (call : CallT → List AV → AHeap → FRes) (path : List Nat) (st : SSt) (e : AEx) (st' : SSt) : Prop := RunP P (needFn fn) rd call (sub (bodyOf fn) path) st e st'
abbrev sxF (P : Program) (fn : Func) (rd : Option Nat) (call : CallT → List AV → AHeap → FRes) (path : List Nat) (st : SSt) (hs : List Hint) : Rs (SR (AEx × SSt)) := sx P (needFn fn) rd call (sub (bodyOf fn) path) st hs
theorem sxF_run {fn : Func} {path : List Nat} {st : SSt} {hs : List Hint} {e : AEx} {st' : SSt} {cs : List Prop} (keep : List Nat) (hx : sxEnd keep (sxF P fn rd call path st hs) = some ⟨(e, st'), cs, []⟩) (hc : AllP cs) : RunF P fn rd call path st e st' := sx_run keep hx hc
end
end AEv

namespace AEv
open Go

theorem sub_cons : ∀ (c : Code) (x : Nat) (l : List Nat), sub c (x :: l) = sub (sub c [x]) l
  | .seq a b, 0, l => by simp [sub]
  | .seq a b, _ + 1, l => by simp [sub]
  | .cond _ a b, 0, l => by simp [sub]
  | .cond _ a b, _ + 1, l => by simp [sub]
  | .rangeFunc _ _ a b, 0, l => by simp [sub]
  | .rangeFunc _ _ a b, _ + 1, l => by simp [sub]
  | .block _ b, x, l => by simp [sub]
  | .loop b, x, l => by simp [sub]
  | .scope b, x, l => by simp [sub]
  | .skip, x, l => by cases l <;> simp [sub]
  | .region _ _ _, x, l => by cases l <;> simp [sub]
  | .exit _, x, l => by cases l <;> simp [sub]
  | .ret, x, l => by cases l <;> simp [sub]
  | .label _, x, l => by cases l <;> simp [sub]
  | .goto _, x, l => by cases l <;> simp [sub]
  | .refuse _, x, l => by cases l <;> simp [sub]
theorem sub_app (c : Code) : ∀ (p l : List Nat), sub c (p ++ l) = sub (sub c p) l
  | [], l => by simp [sub]
  | x :: p, l => by rw [List.cons_append, sub_cons, sub_app (sub c [x]) p l, ← sub_cons]

def isSeq : Code → Bool
  | .seq _ _ => true
  | _ => false
def isBlock (id : Nat) : Code → Bool
  | .block i _ => Nat.beq i id
  | _ => false
def isLoop : Code → Bool
  | .loop _ => true
  | _ => false
theorem isSeq_eq {c : Code} (h : isSeq c = true) : c = .seq (sub c [0]) (sub c [1]) := by
  cases c <;> simp [isSeq, sub] at h ⊢
theorem isBlock_eq {c : Code} {id : Nat} (h : isBlock id c = true) : c = .block id (sub c [0]) := by
  cases c <;> simp only [isBlock] at h <;> (try (cases h; done))
  obtain rfl := Nat.eq_of_beq_eq_true h
  simp [sub]
theorem isLoop_eq {c : Code} (h : isLoop c = true) : c = .loop (sub c [0]) := by
  cases c <;> simp [isLoop, sub] at h ⊢

section
variable {P : Program} {rd : Option Nat} {call : CallT → List AV → AHeap → FRes} {fn : Func}

/-- A function without deferred calls, by its body. -/
theorem fn_runF {intr : Nat → List AV → AHeap → Option (AV × AHeap)} {f : Nat} {n : Nat} {args : List AV} {h : AHeap} (hf : P.funcs[f]? = some fn) (hb : fn.body.isSome = true) (hi : intr f args h = none) (hle : Nat.ble args.length fn.ntmps = true)
    {e : AEx} {Γ : Env} {q : Rc} {h' : AHeap} (hrun : RunF P fn none (callN P intr n) [] ⟨argsG 0 args, [], .none, h⟩ e ⟨Γ, [], q, h'⟩) (he : e = .ret ∨ e = .nrm) {v : AV} (hres : resS P (needFn fn) fn Γ h' = some v) :
    callN P intr (n + 1) (.fn f) args h = .ret v h' := by
  obtain ⟨c, hc⟩ := Option.isSome_iff_exists.1 hb
  have hbo : bodyOf fn = c := by simp [bodyOf, hc]
  unfold RunF at hrun
  rw [hbo] at hrun
  simp only [sub] at hrun
  exact fn_run hf hc rfl hi hle hrun he hres
end
end AEv

namespace AEv
open Go

/-- What lies below a place is as it was. -/
structure Ext (B : Nat) (h h' : AHeap) : Prop where
  n : h.n ≤ h'.n
  get : ∀ b, b < B → h'.get b = h.get b
theorem Ext.refl (B : Nat) (h : AHeap) : Ext B h h := ⟨Nat.le_refl _, fun _ _ => rfl⟩
theorem Ext.trans {B B' : Nat} {h h1 h2 : AHeap} (hB : B ≤ B') (e : Ext B h h1) (e' : Ext B' h1 h2) : Ext B h h2 := ⟨Nat.le_trans e.n e'.n, fun b hb => (e'.get b (Nat.lt_of_lt_of_le hb hB)).trans (e.get b hb)⟩
theorem Ext.push {B : Nat} {h : AHeap} (hB : B ≤ h.n) (o : AObj) : Ext B h (h.push o) := ⟨by simp, fun b hb => by rw [AHeap.get_push, if_neg (by omega)]⟩
theorem Ext.set {B : Nat} {h : AHeap} {b : Nat} (hb : B ≤ b) (o : Option AObj) : Ext B h (h.set b o) := ⟨by simp, fun c hc => by rw [AHeap.get_set, if_neg (by omega)]⟩

theorem takeN_app : ∀ (l m : List AV), takeN l.length (l ++ m) = some l
  | [], m => rfl
  | a :: l, m => by simp [takeN, takeN_app l m]
theorem load_row {h : AHeap} {b e lo hi : Nat} {k : BK} {xs rest : List AV} (hg : h.get b = some (.cells (xs ++ rest) e k lo hi)) : loadCells h b 0 xs.length = some xs := by
  simp [loadCells, hg, dropN, takeN_app]
section
variable {P : Program}

theorem growA_ok {h : AHeap} {e bytes size need : Nat} {z : AV} {cs : List AV} {fz : Nat} (h1 : roomOK need bytes = true) (h2 : Nat.beq z.cells.length size = true) (h3 : cs.all AV.isCell = true) : growA h e bytes size need z cs fz = some (.slice h.n 0 need (.opn size), h.push (.cells cs e .opn 0 fz)) := by
  unfold growA
  rw [h1, h2, h3]; rfl

end
end AEv

namespace AEv
open Go

variable {P : Program} {call : CallT → List AV → AHeap → FRes}

/-- A round's answer: what its body has left by, where the loop's block stands as in a round. -/
def roundR (l : Nat) (e : AEx) (need : Nat) (r : Tr) (ps : List Nat) (as bd : Code) (df : Nat) (h : AHeap) : FRes := match e with
  | .nrm => .ret (.bool true) (h.set l (some (.loop .ready none need r ps as bd df)))
  | .ret => .ret (.bool false) (h.set l (some (.loop .done (some .ret) need r ps as bd df)))
  | .exit id => .ret (.bool false) (h.set l (some (.loop .done (some (.exit id)) need r ps as bd df)))
  | .pan v => .pan v h
  | .goto _ => .fail "goto in a round"

end AEv

namespace AEv
open Go

/-- A piece of code ends, and what is told of its end holds. -/
def W (P : Program) (need : Nat) (rd : Option Nat) (call : CallT → List AV → AHeap → FRes) (c : Code) (Q : AEx → Tr → List ADef → Rc → AHeap → Prop) (r : Tr) (d : List ADef) (q : Rc) (h : AHeap) : Prop :=
  ∃ e r' d' q' h', evCode P need rd call c r d q h = .ok e r' d' q' h' ∧ Q e r' d' q' h'

section
variable {P : Program} {need : Nat} {rd : Option Nat} {call : CallT → List AV → AHeap → FRes} {fn : Func}

end
end AEv

namespace AEv
open Go

section
variable {P : Program}
end
end AEv

namespace AEv
open Go

section
variable {D : Type}
/-- A row of elements. -/
def rowF (enc : D → List AV) (f : Nat → D) : Nat → List AV
  | 0 => []
  | n + 1 => rowF enc f n ++ enc (f n)
variable {enc : D → List AV} {w : Nat}
theorem takeN_app' : ∀ (l m : List AV) (n : Nat), l.length = n → takeN n (l ++ m) = some l
  | l, m, n, h => by subst h; exact takeN_app l m
/-! ### Sorting, in plain words -/
end
end AEv

namespace AEv
open Go

section
variable {P : Program}
end
end AEv

namespace AEv
open Go

/-- What lies below a place is as it was, but for one block. -/
structure ExtX (p B : Nat) (h h' : AHeap) : Prop where
  n : h.n ≤ h'.n
  get : ∀ b, b < B → b ≠ p → h'.get b = h.get b
/-- A block that is new behind does not count. -/
theorem ExtX.toExt {p B : Nat} {h h' : AHeap} (e : ExtX p B h h') (hp : B ≤ p) : Ext B h h' := ⟨e.n, fun b hb => e.get b hb (by omega)⟩
end AEv

namespace AEv
open Go

theorem gtop {h : AHeap} {o : AObj} {b : Nat} (hb : b = h.n) : (h.push o).get b = some o := by subst hb; rw [AHeap.get_push, if_pos rfl]
theorem gold {h : AHeap} {o : AObj} {b : Nat} {x : Option AObj} (hb : b < h.n) (hx : h.get b = x) : (h.push o).get b = x := by rw [AHeap.get_push, if_neg (by omega)]; exact hx
theorem gsame {h : AHeap} {o : AObj} {b c : Nat} (hb : b = c) : (h.set c (some o)).get b = some o := by subst hb; rw [AHeap.get_set, if_pos rfl]
theorem gother {h : AHeap} {b c : Nat} {o x : Option AObj} (hb : ¬ b = c) (hx : h.get b = x) : (h.set c o).get b = x := by rw [AHeap.get_set, if_neg hb]; exact hx
theorem ld1 {h : AHeap} {b off : Nat} {cs : List AV} {e lo up : Nat} {k : BK} {v : AV} (hg : h.get b = some (.cells cs e k lo up)) (hn : nth off cs = some v) : load1 h b off = some v := by simp only [load1, hg, hn]
theorem ldc {h : AHeap} {b off m : Nat} {cs vs : List AV} {e lo up : Nat} {k : BK} (hg : h.get b = some (.cells cs e k lo up)) (hn : takeN m (dropN off cs) = some vs) : AEv.loadCells h b off m = some vs := by simp only [AEv.loadCells, hg, hn]
theorem stc {h : AHeap} {b off : Nat} {xs cs cs' : List AV} {e lo up : Nat} {k : BK} (hg : h.get b = some (.cells cs e k lo up)) (hw : writable k lo up off xs.length = true) (hp : putCells off xs cs = some cs') : AEv.storeCells h b off xs = some (h.set b (some (.cells cs' e k lo up))) := by simp only [AEv.storeCells, hg, hw, hp]

theorem Ext.setR {B b : Nat} {h g : AHeap} {o : Option AObj} (hb : B ≤ b) (e : Ext B h g) : Ext B h (g.set b o) := e.trans (Nat.le_refl _) (Ext.set hb _)
theorem Ext.pushR {B : Nat} {h g : AHeap} {o : AObj} (hB : B ≤ g.n) (e : Ext B h g) : Ext B h (g.push o) := e.trans (Nat.le_refl _) (Ext.push hB _)
/-! ### What a text leaves to these -/
end AEv
