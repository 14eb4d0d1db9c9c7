/-
  THE ABSTRACT EVALUATOR (code, functions, rounds, calls): a deterministic semantics of loaded code, and the proof that its runs are runs of the program in the model, whatever the tape draws. No condition.
-/
import Derived.Test.YtlelojncabdnoaaDoorAeb
import Derived.Defers
import Derived.Laws.Externs
import Derived.Orders
set_option linter.unusedVariables false
set_option linter.unusedSimpArgs false
/-
  THE ABSTRACT EVALUATOR: a region in the text's order.
-/
namespace AEv
open Go

def planS (P : Program) (need : Nat) (ops : Array Oper) : List Oper → List (Nat × Acc) → Nat → List Step
  | [], _, _ => []
  | o :: rest, loc, m =>
    match aliasOf o with
    | some (t, x) => planS P need ops rest ((t, accOf P need loc x) :: loc) m
    | none => ⟨guardAcc P need ops loc o, o, loc, m⟩ :: planS P need ops rest (nextLoc o m loc) (m + 1)
def planL (P : Program) (need : Nat) (ops : Array Oper) : List Oper → List (Nat × Acc) → Nat → List (Nat × Acc)
  | [], loc, _ => loc
  | o :: rest, loc, m =>
    match aliasOf o with
    | some (t, x) => planL P need ops rest ((t, accOf P need loc x) :: loc) m
    | none => planL P need ops rest (nextLoc o m loc) (m + 1)
theorem planGo_eq (P : Program) (need : Nat) (ops : Array Oper) : ∀ (l : List Oper) (loc : List (Nat × Acc)) (st : List Step) (m : Nat), planGo P need ops l loc st m = ⟨st.reverse ++ planS P need ops l loc m, planL P need ops l loc m⟩
  | [], loc, st, m => by simp [planGo, planS, planL]
  | o :: rest, loc, st, m => by
    unfold planGo planS planL
    cases ha : aliasOf o with
    | some p => obtain ⟨t, x⟩ := p; simp only [ha]; exact planGo_eq P need ops rest _ st m
    | none => simp only [ha]; rw [planGo_eq P need ops rest]; simp

section
variable {P : Program} {need : Nat}

theorem findLoc_cons (t u : Nat) (a : Acc) (l : List (Nat × Acc)) : findLoc t ((u, a) :: l) = if t = u then some a else findLoc t l := by
  rw [findLoc]
  by_cases h : t = u
  · subst h; simp
  · have : Nat.beq t u = false := by
      cases hb : Nat.beq t u with
      | false => rfl
      | true => exact absurd (Nat.eq_of_beq_eq_true hb) h
    rw [this, if_neg h]
def Acc.below (m : Nat) : Acc → Prop
  | .env j => j < m
  | _ => True
theorem getAcc_cons {m : Nat} {env : List AV} {r : Tr} {v : AV} {a : Acc} (h : a.below m) : getAcc (m + 1) (v :: env) r a = getAcc m env r a := by
  cases a with
  | env j =>
    simp only [Acc.below] at h
    have : m + 1 - 1 - j = (m - 1 - j) + 1 := by omega
    simp only [getAcc, this, nth]
  | reg p => rfl
  | val v => rfl
theorem getAcc_top {m : Nat} {env : List AV} {r : Tr} {v : AV} : getAcc (m + 1) (v :: env) r (.env m) = v := by
  simp [getAcc, nth]
def LocOK (m : Nat) (loc : List (Nat × Acc)) : Prop := ∀ t a, findLoc t loc = some a → a.below m
theorem accOf_below {m : Nat} {loc : List (Nat × Acc)} (h : LocOK m loc) (x : Operand) : (accOf P need loc x).below m := by
  cases x with
  | tmp t =>
    simp only [accOf]
    cases hf : findLoc t loc with
    | some a => exact h t a hf
    | none => simp only []; cases Nat.testBit need t <;> trivial
  | const v => trivial
  | global g => simp only [accOf]; cases Nat.blt g P.globals.size <;> trivial
  | func f => trivial
theorem Acc.below_mono {m n : Nat} (h : m ≤ n) {a : Acc} (ha : a.below m) : a.below n := by
  cases a with
  | env j => exact Nat.lt_of_lt_of_le ha h
  | reg p => trivial
  | val v => trivial

/-- The registers, as a region has them. -/
structure RInv (P : Program) (need : Nat) (μ : Mu) (r : Tr) (m : Nat) (env : List AV) (loc : List (Nat × Acc)) (tm : Array Value) : Prop where
  lok : LocOK m loc
  rel : ∀ t, VRel μ (getAcc m env r (accOf P need loc (.tmp t))) (tm.getD t undef)

theorem RInv.mono {μ μ' : Mu} {r : Tr} {m : Nat} {env : List AV} {loc : List (Nat × Acc)} {tm : Array Value} (hle : Le μ μ') (h : RInv P need μ r m env loc tm) : RInv P need μ' r m env loc tm := ⟨h.lok, fun t => (h.rel t).mono hle⟩
theorem RInv.eval {μ : Mu} {r : Tr} {m : Nat} {env : List AV} {loc : List (Nat × Acc)} {a : Act} (h : RInv P need μ r m env loc a.tmps) (hg : GRel P μ) (x : Operand) : VRel μ (getAcc m env r (accOf P need loc x)) (a.eval x) := by
  cases x with
  | tmp t => exact h.rel t
  | const v => exact absV_rel μ v
  | global g =>
    simp only [accOf, Act.eval]
    cases hb : Nat.blt g P.globals.size with
    | false => exact trivial
    | true =>
      obtain ⟨i, h1, h2, h3⟩ := hg g (by simpa using hb)
      obtain ⟨ib, i0, isz⟩ := i
      simp only at h2 h3
      subst h2; subst h3
      exact ⟨_, h1, rfl⟩
  | func f => exact ⟨[], [], rfl, rfl, rfl⟩
theorem RInv.init {μ : Mu} {r : Tr} {tm : Array Value} (h : RegsRel need μ r tm) : RInv P need μ r 0 [] [] tm :=
  ⟨fun t a h => by simp [findLoc] at h, fun t => by
    simp only [accOf, findLoc]
    cases hb : Nat.testBit need t with
    | true => exact h t hb
    | false => trivial⟩

theorem getD_set {tm : Array Value} {d t : Nat} {u : Value} (hd : d < tm.size) : (tm.setIfInBounds d u).getD t undef = if t = d then u else tm.getD t undef := by
  simp only [Array.getD_eq_getD_getElem?, Array.getElem?_setIfInBounds]
  by_cases h : d = t
  · subst h; simp [hd]
  · rw [if_neg h, if_neg (fun e => h e.symm)]

theorem RInv.alias {μ : Mu} {r : Tr} {m : Nat} {env : List AV} {loc : List (Nat × Acc)} {a : Act} (h : RInv P need μ r m env loc a.tmps) (hg : GRel P μ) {t : Nat} (ht : t < a.tmps.size) (x : Operand) :
    RInv P need μ r m env ((t, accOf P need loc x) :: loc) (a.put (some t) (a.eval x)).tmps := by
  refine ⟨fun u b hu => ?_, fun u => ?_⟩
  · rw [findLoc_cons] at hu
    split at hu
    · cases hu; exact accOf_below h.lok x
    · exact h.lok u b hu
  · simp only [accOf, findLoc_cons, Act.put]
    rw [getD_set ht]
    by_cases e : u = t
    · simp only [e, if_true]; exact h.eval hg x
    · simp only [e, if_false]; exact h.rel u
theorem RInv.step {μ : Mu} {r : Tr} {m : Nat} {env : List AV} {loc : List (Nat × Acc)} {a : Act} (h : RInv P need μ r m env loc a.tmps) {o : Oper} (ht : ∀ t, o.dst = some t → t < a.tmps.size) {v : AV} {u : Value} (hv : VRel μ v u) :
    RInv P need μ r (m + 1) (v :: env) (nextLoc o m loc) (a.put o.dst u).tmps := by
  have old : ∀ t, VRel μ (getAcc (m + 1) (v :: env) r (accOf P need loc (.tmp t))) (a.tmps.getD t undef) := fun t => by
    rw [getAcc_cons (accOf_below h.lok _)]; exact h.rel t
  unfold nextLoc
  cases hd : o.dst with
  | none => exact ⟨fun t b hb => Acc.below_mono (Nat.le_succ m) (h.lok t b hb), old⟩
  | some d =>
    refine ⟨fun t b hb => ?_, fun t => ?_⟩
    · rw [findLoc_cons] at hb
      split at hb
      · cases hb; exact Nat.lt_succ_self m
      · exact Acc.below_mono (Nat.le_succ m) (h.lok t b hb)
    · simp only [Act.put]
      rw [getD_set (ht d hd)]
      by_cases e : t = d
      · simp only [accOf, findLoc_cons, e, if_true, getAcc_top]; exact hv
      · have := old t
        simp only [accOf, findLoc_cons, e, if_false] at this ⊢
        exact this

theorem yielded_of {ops : Array Oper} {tm : Array Value} {j t : Nat} (h : (ops[j]?).bind (·.dst) = some t) : yielded ops tm j = match tm.getD t undef with
    | .bool b => some b
    | _ => none := by
  unfold yielded
  rw [h, Option.bind_some]
  rw [Array.getD_eq_getD_getElem?]
  cases hh : tm[t]? with
  | none => rfl
  | some v => simp only [Option.getD_some]; cases v <;> rfl
theorem guard_ok {μ : Mu} {ops : Array Oper} {loc : List (Nat × Acc)} {o : Oper} {acc : Acc → AV} {tm : Array Value} (hrel : ∀ t, VRel μ (acc (accOf P need loc (.tmp t))) (tm.getD t undef)) (hval : ∀ v, acc (.val v) = v) :
    ∀ wb, wantedA (match guardAcc P need ops loc o with | none => none | some (a, b) => some (acc a, b)) = some wb → Region.wanted o (yielded ops tm) = wb := by
  intro wb h
  unfold guardAcc at h
  unfold Region.wanted
  cases hg : o.guard with
  | none => rw [hg] at h; simp only [wantedA] at h; cases h; rfl
  | some p =>
    obtain ⟨j, b⟩ := p
    rw [hg] at h
    simp only at h ⊢
    cases ht : (ops[j]?).bind (·.dst) with
    | none => rw [ht] at h; simp only [hval, wantedA] at h; cases h
    | some t =>
      rw [ht] at h
      simp only at h
      have hr := hrel t
      rw [yielded_of ht]
      generalize acc (accOf P need loc (.tmp t)) = v at h hr
      unfold wantedA at h
      split at h
      · rename_i he; cases he
      · rename_i he; cases he; cases h
        have hr' : tm.getD t undef = _ := hr
        rw [hr']; rfl
      · rename_i he; cases he; cases h
        obtain ⟨l, hl, hl2⟩ := hr
        cases hl2
        rw [hl]; rfl
      · cases h

/-- What a frame that panics has before it is no call of a library row. -/
def NotCall : List Item → Prop
  | .call _ _ _ _ :: _ => False
  | _ => True
def RAll (P : Program) (need nt : Nat) (μ : Mu) (r : Tr) (H : AHeap) (w : World) (b : Frame) (k : List Item) (cs0 : List Frame) (m0 : Machine) (loc : List (Nat × Acc)) : RRes → Prop
  | .ok env d' q' H' => ∃ μ' w' a' cs', Steps P m0 (lone (b.atR a' k) cs' w') ∧ RInv P need μ' r env.length env loc a'.tmps ∧ a'.tmps.size = nt ∧ HRel μ' H' w' ∧ Adv μ H w μ' H' w' ∧ DRels μ' d' a'.defers ∧ QRel μ' b.kind cs0 q' cs'
  | .pan v d' q' H' => ∃ μ' w' a' cs' u kk, Steps P m0 (lone { b.atR a' kk with mode := .panicking [{ v := u, recovered := false }] } cs' w') ∧ NotCall kk ∧ VRel μ' v u ∧
      (∀ t, findLoc t loc = none → Nat.testBit need t = true → VRel μ' (r.get (pth t)) (a'.tmps.getD t undef)) ∧ a'.tmps.size = nt ∧ HRel μ' H' w' ∧ Adv μ H w μ' H' w' ∧ DRels μ' d' a'.defers ∧ QRel μ' b.kind cs0 q' cs'
  | .fail _ => True

theorem RAll.of_steps {nt : Nat} {μ μ1 : Mu} {r : Tr} {H H1 : AHeap} {w w1 : World} {b : Frame} {k : List Item} {cs0 : List Frame} {m0 m1 : Machine} {loc : List (Nat × Acc)} {x : RRes} (hh : HRel μ H w) (hh1 : HRel μ1 H1 w1) (h : Steps P m0 m1) (ha : Adv μ H w μ1 H1 w1)
    (h1 : RAll P need nt μ1 r H1 w1 b k cs0 m1 loc x) : RAll P need nt μ r H w b k cs0 m0 loc x := by
  cases x with
  | ok env d q H' =>
    obtain ⟨μ', w', a', cs', s1, s2, s3, s4, s5, s6⟩ := h1
    exact ⟨μ', w', a', cs', h.trans s1, s2, s3, s4, Adv.trans hh hh1 ha s5, s6⟩
  | pan v d q H' =>
    obtain ⟨μ', w', a', cs', u, kk, s1, s0, s2, s3, s4, s5, s6, s7⟩ := h1
    exact ⟨μ', w', a', cs', u, kk, h.trans s1, s0, s2, s3, s4, s5, Adv.trans hh hh1 ha s6, s7⟩
  | fail s => trivial

theorem planL_none {ops : Array Oper} : ∀ (l : List Oper) (loc : List (Nat × Acc)) (m t : Nat), findLoc t (planL P need ops l loc m) = none → findLoc t loc = none
  | [], loc, m, t, h => h
  | o :: rest, loc, m, t, h => by
    unfold planL at h
    cases ha : aliasOf o with
    | some p =>
      obtain ⟨u, x⟩ := p
      rw [ha] at h
      have := planL_none rest _ m t h
      rw [findLoc_cons] at this
      split at this
      · cases this
      · exact this
    | none =>
      rw [ha] at h
      have := planL_none rest _ _ t h
      unfold nextLoc at this
      split at this
      · rw [findLoc_cons] at this
        split at this
        · cases this
        · exact this
      · exact this

theorem aliasOf_some {o : Oper} {t : Nat} {x : Operand} (h : aliasOf o = some (t, x)) : o.guard = none ∧ o.dst = some t ∧ ∀ ρ, execOp ρ o = pure (.value (ρ x)) := by
  unfold aliasOf at h
  split at h
  · rename_i h1 h2 h3; cases h; exact ⟨h1, h2, fun ρ => by simp [execOp, h3]⟩
  · rename_i h1 h2 h3; cases h; exact ⟨h1, h2, fun ρ => by simp [execOp, h3]⟩
  · cases h

theorem put_size (a : Act) (dst : Option Tmp) (u : Value) : (a.put dst u).tmps.size = a.tmps.size := by cases dst <;> simp [Act.put]

theorem evSteps_ok {call : CallT → List AV → AHeap → FRes} (hc : CallOK P call) {nt : Nat} {ops : Array Oper} (hops : ∀ o ∈ ops.toList, ∀ t, o.dst = some t → t < nt) {b : Frame} {inR : Bool} (hin : inR = b.roundOf.isSome) {r : Tr} {k : List Item} {cs0 : List Frame} :
    ∀ (l : List Oper) (i0 : Nat) (loc : List (Nat × Acc)) (m : Nat) (env : List AV) (d : List ADef) (q : Rc) (μ : Mu) (H : AHeap) (w : World) (a : Act) (cs : List Frame), ops.toList.drop i0 = l → env.length = m →
      RInv P need μ r m env loc a.tmps → a.tmps.size = nt → HRel μ H w → GRel P μ → DRels μ d a.defers → QRel μ b.kind cs0 q cs →
      RAll P need nt μ r H w b k cs0 (lone (b.atR a (.inRegion ops (List.range' i0 l.length) :: k)) cs w) (planL P need ops l loc m) (evSteps P need inR call r (planS P need ops l loc m) env d q H)
  | [], i0, loc, m, env, d, q, μ, H, w, a, cs, hl, hm, hri, hsz, hh, hg, hd, hq => by
    subst hm
    exact ⟨μ, w, a, cs, .one stepR_region_end, hri, hsz, hh, Adv.refl _ _ _, hd, hq⟩
  | o :: rest, i0, loc, m, env, d, q, μ, H, w, a, cs, hl, hm, hri, hsz, hh, hg, hd, hq => by
    have ho : ops[i0]? = some o := by
      have := congrArg List.head? hl
      simpa [List.head?_drop] using this
    have hrest : ops.toList.drop (i0 + 1) = rest := by
      have := congrArg List.tail hl
      simpa [List.tail_drop] using this
    have hmem : o ∈ ops.toList := by
      rw [← Array.getElem?_toList] at ho
      exact List.mem_of_getElem? ho
    have hdst : ∀ t, o.dst = some t → t < a.tmps.size := fun t h => by rw [hsz]; exact hops o hmem t h
    rw [List.length_cons, List.range'_succ]
    unfold planS planL
    cases ha : aliasOf o with
    | some p =>
      obtain ⟨t, x⟩ := p
      simp only
      obtain ⟨a1, a2, a3⟩ := aliasOf_some ha
      have hw : Region.wanted o (yielded ops a.tmps) = true := by simp [Region.wanted, a1]
      have hst := stepGR_op (P := P) (b := b) (a := a) (k := k) (cs := cs) (w := w) (rest := List.range' (i0 + 1) rest.length) ho hw
      have hsem : o.semAt b.roundOf a.eval = execOp a.eval o := by
        refine Oper.semAt_eq _ _ _ fun c e => ?_
        have := a3 a.eval
        unfold aliasOf at ha
        rw [e] at ha
        split at ha
        · rename_i h; cases h
        · rename_i h; cases h
        · cases ha
      rw [hsem] at hst
      obtain ⟨g1, _⟩ := stepG_goes hst
      have hs := g1 (a.eval x) w (by rw [a3]; rfl)
      have hfin : (b.atR a (.inRegion ops (i0 :: List.range' (i0 + 1) rest.length) :: k)).finish (a.eval x) = b.atR (a.put (some t) (a.eval x)) (.inRegion ops (List.range' (i0 + 1) rest.length) :: k) := by
        rw [Frame.finish_atR, ho]
        simp only [Option.bind_some, a2]
      rw [hfin] at hs
      have ih := evSteps_ok (k := k) hc hops hin rest (i0 + 1) ((t, accOf P need loc x) :: loc) m env d q μ H w (a.put (some t) (a.eval x)) cs hrest hm (hri.alias hg (hdst t a2) x) ((put_size _ _ _).trans hsz) hh hg (by rw [put_defers]; exact hd) hq
      exact ih.of_steps hh hh hs (Adv.refl _ _ _)
    | none =>
      simp only [evSteps]
      have hone := evOne_ok (P := P) hc hh hg (b := b) (a := a) (ops := ops) (i := i0) (rest := List.range' (i0 + 1) rest.length) (k := k) (cs0 := cs0) (cs := cs) ho (gd := match guardAcc P need ops loc o with | none => none | some (x, c) => some (getAcc m env r x, c))
        (guard_ok (acc := getAcc m env r) hri.rel (fun v => rfl)) (g := fun x => getAcc m env r (accOf P need loc x)) (fun x => hri.eval hg x) hd hq hin
      generalize evOne P inR call (match guardAcc P need ops loc o with | none => none | some (x, c) => some (getAcc m env r x, c)) o (fun x => getAcc m env r (accOf P need loc x)) d q H = res at hone ⊢
      cases res with
      | ok v d' q' H' =>
        obtain ⟨μ', w', u, ds', cs', s1, s2, s3, s4, s5, s6⟩ := hone
        have hri' := (hri.mono s4.le).step (a := a) (o := o) hdst s2
        have ih := evSteps_ok (k := k) hc hops hin rest (i0 + 1) (nextLoc o m loc) (m + 1) (v :: env) d' q' μ' H' w' { tmps := (a.put o.dst u).tmps, defers := ds' } cs' hrest (by simp [hm]) hri' ((put_size _ _ _).trans hsz) s3 (hg.mono s4.le) s5 s6
        exact ih.of_steps hh s3 s1 s4
      | pan v d' q' H' =>
        obtain ⟨μ', w', u, s1, s2, s3, s4, s5, s6⟩ := hone
        refine ⟨μ', w', a, cs, u, _, s1, trivial, s2, fun t ht hn => ?_, hsz, s3, s4, s5, s6⟩
        have h0 := planL_none (P := P) (need := need) (ops := ops) rest _ _ t ht
        have h1 : findLoc t loc = none := by
          unfold nextLoc at h0
          split at h0
          · rw [findLoc_cons] at h0
            split at h0
            · cases h0
            · exact h0
          · exact h0
        have := (hri.mono s4.le).rel t
        simp only [accOf, h1, hn, getAcc] at this
        exact this
      | fail s => trivial
end
end AEv

/-
  THE ABSTRACT EVALUATOR: code.
-/
namespace AEv
open Go

section
variable {P : Program} {need : Nat}

theorem setOuts_get (need m : Nat) (env : List AV) (r0 : Tr) : ∀ (loc : List (Nat × Acc)) (r : Tr) (t : Nat), Nat.testBit need t = true →
    (setOuts need m env r0 loc r).get (pth t) = match findLoc t loc with | some a => getAcc m env r0 a | none => r.get (pth t)
  | [], r, t, ht => rfl
  | (u, a) :: l, r, t, ht => by
    rw [findLoc_cons]
    simp only [setOuts]
    by_cases e : t = u
    · subst e
      simp only [ht, if_true, Tr.get_set]
    · have ih := setOuts_get need m env r0 l r t ht
      cases hu : Nat.testBit need u with
      | true => simp only [Tr.get_set, if_neg e, ih]
      | false => simp only [if_neg e, ih]
theorem inval_get : ∀ (loc : List (Nat × Acc)) (r : Tr) (t : Nat), (inval loc r).get (pth t) = match findLoc t loc with | some a => .bad | none => r.get (pth t)
  | [], r, t => rfl
  | (u, a) :: l, r, t => by
    rw [findLoc_cons]
    simp only [inval, Tr.get_set]
    by_cases e : t = u
    · simp only [e, if_true]
    · simp only [if_neg e, inval_get l r t]
theorem RInv.outs {μ : Mu} {r : Tr} {m : Nat} {env : List AV} {loc : List (Nat × Acc)} {tm : Array Value} (h : RInv P need μ r m env loc tm) : RegsRel need μ (setOuts need m env r loc r) tm := by
  intro t ht
  rw [setOuts_get need m env r loc r t ht]
  have := h.rel t
  simp only [accOf, ht] at this
  cases hf : findLoc t loc with
  | some a => rw [hf] at this; exact this
  | none => rw [hf] at this; exact this

theorem thenC_other {e : AEx} {r : Tr} {d : List ADef} {q : Rc} {h : AHeap} {f : Tr → List ADef → Rc → AHeap → CRes} (he : e ≠ .nrm) : thenC (.ok e r d q h) f = .ok e r d q h := by
  cases e <;> first | rfl | exact absurd rfl he

/-- Where a piece of code has come to. -/
def EndsAt (P : Program) (μ : Mu) (m0 : Machine) (b : Frame) (k : List Item) (cs : List Frame) (a : Act) (w : World) : AEx → Prop
  | .nrm => Steps P m0 (lone (b.atR a k) cs w)
  | .exit id => ∃ kk, exitTo id kk = exitTo id k ∧ Steps P m0 (lone (b.atR a (.code (.exit id) :: kk)) cs w)
  | .ret => ∃ kk, Steps P m0 (lone (b.atR a (.code .ret :: kk)) cs w)
  | .goto _ => False
  | .pan v => ∃ kk u, (VRel μ v u ∧ NotCall kk) ∧ Steps P m0 (lone { b.atR a kk with mode := .panicking [{ v := u, recovered := false }] } cs w)
theorem EndsAt.of_steps {μ : Mu} {m0 m1 : Machine} {b : Frame} {k : List Item} {cs : List Frame} {a : Act} {w : World} {e : AEx} (h : Steps P m0 m1) (h' : EndsAt P μ m1 b k cs a w e) : EndsAt P μ m0 b k cs a w e := by
  cases e with
  | nrm => exact h.trans h'
  | exit id => obtain ⟨kk, h1, h2⟩ := h'; exact ⟨kk, h1, h.trans h2⟩
  | ret => obtain ⟨kk, h2⟩ := h'; exact ⟨kk, h.trans h2⟩
  | goto l => exact h'
  | pan v => obtain ⟨kk, u, h1, h2⟩ := h'; exact ⟨kk, u, h1, h.trans h2⟩
theorem EndsAt.pass {μ : Mu} {m0 : Machine} {b : Frame} {x : Item} {k : List Item} {cs : List Frame} {a : Act} {w : World} {e : AEx} (hx : ∀ id, x ≠ .inBlock id) (he : e ≠ .nrm) (h : EndsAt P μ m0 b (x :: k) cs a w e) : EndsAt P μ m0 b k cs a w e := by
  cases e with
  | nrm => exact absurd rfl he
  | exit id =>
    obtain ⟨kk, h1, h2⟩ := h
    refine ⟨kk, h1.trans ?_, h2⟩
    cases x <;> first | rfl | exact absurd rfl (hx _)
  | ret => exact h
  | goto l => exact h
  | pan v => exact h

def CAll (P : Program) (need nt : Nat) (μ : Mu) (H : AHeap) (w : World) (b : Frame) (k : List Item) (cs0 : List Frame) (m0 : Machine) : CRes → Prop
  | .ok e r' d' q' H' => ∃ μ' w' a' cs', EndsAt P μ' m0 b k cs' a' w' e ∧ RegsRel need μ' r' a'.tmps ∧ a'.tmps.size = nt ∧ HRel μ' H' w' ∧ Adv μ H w μ' H' w' ∧ DRels μ' d' a'.defers ∧ QRel μ' b.kind cs0 q' cs'
  | .fail _ => True
theorem CAll.of_steps {nt : Nat} {μ μ1 : Mu} {H H1 : AHeap} {w w1 : World} {b : Frame} {k : List Item} {cs0 : List Frame} {m0 m1 : Machine} {x : CRes} (hh : HRel μ H w) (hh1 : HRel μ1 H1 w1) (h : Steps P m0 m1) (ha : Adv μ H w μ1 H1 w1)
    (h1 : CAll P need nt μ1 H1 w1 b k cs0 m1 x) : CAll P need nt μ H w b k cs0 m0 x := by
  cases x with
  | ok e r d q H' =>
    obtain ⟨μ', w', a', cs', s1, s2, s3, s4, s5, s6⟩ := h1
    exact ⟨μ', w', a', cs', s1.of_steps h, s2, s3, s4, Adv.trans hh hh1 ha s5, s6⟩
  | fail s => trivial

def RdRel (μ : Mu) (b : Frame) : Option Nat → Prop
  | none => b.roundOf = none
  | some l => ∃ i, μ l = some i ∧ b.roundOf = some i.blk
theorem RdRel.mono {μ μ' : Mu} (hle : Le μ μ') {b : Frame} {rd : Option Nat} (h : RdRel μ b rd) : RdRel μ' b rd := by
  cases rd with
  | none => exact h
  | some l => obtain ⟨i, h1, h2⟩ := h; exact ⟨i, hle _ _ h1, h2⟩
theorem RdRel.isSome {μ : Mu} {b : Frame} {rd : Option Nat} (h : RdRel μ b rd) : rd.isSome = b.roundOf.isSome := by
  cases rd with
  | none => have : b.roundOf = none := h; simp [this]
  | some l => obtain ⟨i, h1, h2⟩ := h; simp [h2]

def DrawSpec (P : Program) (need nt : Nat) (call : CallT → List AV → AHeap → FRes) : Prop :=
  ∀ (ops : Array Oper) (id : Nat), (∀ o ∈ ops.toList, ∀ t, o.dst = some t → t < nt) → drawOK ops (dplan ops.toList 0 [] []) = true →
    ∀ (b : Frame) (inR : Bool) (r : Tr) (d : List ADef) (q : Rc) (H : AHeap) (μ : Mu) (w : World) (a : Act) (k : List Item) (cs0 cs : List Frame), inR = b.roundOf.isSome → RegsRel need μ r a.tmps → a.tmps.size = nt → HRel μ H w → GRel P μ → DRels μ d a.defers → QRel μ b.kind cs0 q cs →
      RAll P need nt μ r H w b k cs0 (lone (b.atR a (.code (.region id ops true) :: k)) cs w) (dloc ops.toList 0 []) (evDraw P need inR call ops r d q H)
def RangeSpec (P : Program) (need nt : Nat) (call : CallT → List AV → AHeap → FRes) : Prop :=
  ∀ (f : Operand) (ps : Array Nat) (as bd : Code), okCode nt (.rangeFunc f ps as bd) = true → ∀ (b : Frame) (rd : Option Nat) (r : Tr) (d : List ADef) (q : Rc) (H : AHeap) (μ : Mu) (w : World) (a : Act) (k : List Item) (cs0 cs : List Frame), RdRel μ b rd → RegsRel need μ r a.tmps → a.tmps.size = nt → HRel μ H w → GRel P μ → DRels μ d a.defers → QRel μ b.kind cs0 q cs →
    CAll P need nt μ H w b k cs0 (lone (b.atR a (.code (.rangeFunc f ps as bd) :: k)) cs w) (evCode P need rd call (.rangeFunc f ps as bd) r d q H)

theorem stepR_inScope {b : Frame} {a : Act} {c : Code} {k : List Item} {cs : List Frame} {w : World} : step P (lone (b.atR a (.inScope c :: k)) cs w) = .next (lone (b.atR a k) cs w) :=
  step_lone_go (by simp [stepG, stepG.exec, Frame.atR])
theorem stepR_scope {b : Frame} {a : Act} {c : Code} {k : List Item} {cs : List Frame} {w : World} : step P (lone (b.atR a (.code (.scope c) :: k)) cs w) = .next (lone (b.atR a (.code c :: .inScope c :: k)) cs w) :=
  step_lone_go (by simp [stepG, stepG.exec, Frame.atR])

theorem RAll.code {nt : Nat} {μ : Mu} {r : Tr} {H : AHeap} {w : World} {b : Frame} {k : List Item} {cs0 : List Frame} {m0 : Machine} {loc : List (Nat × Acc)} {x : RRes} (h : RAll P need nt μ r H w b k cs0 m0 loc x) :
    CAll P need nt μ H w b k cs0 m0 (toC need r loc x) := by
  cases x with
  | ok env d q H' =>
    obtain ⟨μ', w', a', cs', s1, s2, s3, s4, s5, s6⟩ := h
    exact ⟨μ', w', a', cs', s1, s2.outs, s3, s4, s5, s6⟩
  | pan v d q H' =>
    obtain ⟨μ', w', a', cs', u, kk, s1, s0, s2, s3, s4, s5, s6, s7⟩ := h
    refine ⟨μ', w', a', cs', ⟨kk, u, ⟨s2, s0⟩, s1⟩, fun t ht => ?_, s4, s5, s6, s7⟩
    rw [inval_get]
    cases hf : findLoc t loc with
    | some x => trivial
    | none => exact s3 t hf ht
  | fail s => trivial

def CodeSpec (P : Program) (need nt : Nat) (call : CallT → List AV → AHeap → FRes) (rd : Option Nat) (c : Code) : Prop :=
  ∀ (b : Frame) (r : Tr) (d : List ADef) (q : Rc) (H : AHeap) (μ : Mu) (w : World) (a : Act) (k : List Item) (cs0 cs : List Frame), RdRel μ b rd → RegsRel need μ r a.tmps → a.tmps.size = nt → HRel μ H w → GRel P μ → DRels μ d a.defers → QRel μ b.kind cs0 q cs →
    CAll P need nt μ H w b k cs0 (lone (b.atR a (.code c :: k)) cs w) (evCode P need rd call c r d q H)

theorem loopN_ok {nt : Nat} {call : CallT → List AV → AHeap → FRes} {rd : Option Nat} {c : Code} (hcs : CodeSpec P need nt call rd c) (b : Frame) (k : List Item) (cs0 : List Frame) : ∀ (n : Nat) (r : Tr) (d : List ADef) (q : Rc) (H : AHeap) (μ : Mu) (w : World) (a : Act) (cs : List Frame), RdRel μ b rd → RegsRel need μ r a.tmps → a.tmps.size = nt → HRel μ H w → GRel P μ → DRels μ d a.defers → QRel μ b.kind cs0 q cs →
    CAll P need nt μ H w b k cs0 (lone (b.atR a (.code c :: .inLoop c :: k)) cs w) (loopN (evCode P need rd call c) n r d q H)
  | 0, r, d, q, H, μ, w, a, cs, hrd, hr, hsz, hh, hg, hd, hq => trivial
  | n + 1, r, d, q, H, μ, w, a, cs, hrd, hr, hsz, hh, hg, hd, hq => by
    have h1 := hcs b r d q H μ w a (.inLoop c :: k) cs0 cs hrd hr hsz hh hg hd hq
    unfold loopN
    cases hx : evCode P need rd call c r d q H with
    | fail s => trivial
    | ok e r' d' q' H' =>
      rw [hx] at h1
      obtain ⟨μ', w', a', cs', s1, s2, s3, s4, s5, s6, s7⟩ := h1
      by_cases he : e = .nrm
      · subst he
        have ih := loopN_ok hcs b k cs0 n r' d' q' H' μ' w' a' cs' (hrd.mono s5.le) s2 s3 s4 (hg.mono s5.le) s6 s7
        exact ih.of_steps hh s4 (Steps.trans s1 (.one stepR_inLoop)) s5
      · rw [thenC_other he]
        exact ⟨μ', w', a', cs', s1.pass (fun id h => by cases h) he, s2, s3, s4, s5, s6, s7⟩

theorem evCode_ok {nt : Nat} {call : CallT → List AV → AHeap → FRes} (hc : CallOK P call) (hdr : DrawSpec P need nt call) (hrs : RangeSpec P need nt call) (rd : Option Nat) : ∀ (c : Code), okCode nt c = true → CodeSpec P need nt call rd c
  | .skip, _ => fun b r d q H μ w a k cs0 cs hrd hr hsz hh hg hd hq => ⟨μ, w, a, cs, .one stepR_skip, hr, hsz, hh, Adv.refl _ _ _, hd, hq⟩
  | .label l, _ => fun b r d q H μ w a k cs0 cs hrd hr hsz hh hg hd hq => ⟨μ, w, a, cs, .one stepR_label, hr, hsz, hh, Adv.refl _ _ _, hd, hq⟩
  | .exit id, _ => fun b r d q H μ w a k cs0 cs hrd hr hsz hh hg hd hq => ⟨μ, w, a, cs, ⟨k, rfl, Steps.refl _ _⟩, hr, hsz, hh, Adv.refl _ _ _, hd, hq⟩
  | .ret, _ => fun b r d q H μ w a k cs0 cs hrd hr hsz hh hg hd hq => ⟨μ, w, a, cs, ⟨k, Steps.refl _ _⟩, hr, hsz, hh, Adv.refl _ _ _, hd, hq⟩
  | .goto l, _ => fun b r d q H μ w a k cs0 cs hrd hr hsz hh hg hd hq => trivial
  | .refuse s, _ => fun b r d q H μ w a k cs0 cs hrd hr hsz hh hg hd hq => trivial
  | .region id ops draw, hok => fun b r d q H μ w a k cs0 cs hrd hr hsz hh hg hd hq => by
    simp only [okCode, Bool.and_eq_true, List.all_eq_true] at hok
    have hops : ∀ o ∈ ops.toList, ∀ t, o.dst = some t → t < nt := fun o ho t ht => by
      have := hok.1 o ho
      rw [ht] at this
      simpa using this
    cases draw with
    | false =>
      have h := evSteps_ok (P := P) (need := need) (k := k) hc hops (b := b) (inR := rd.isSome) hrd.isSome (r := r) (cs0 := cs0) ops.toList 0 [] 0 [] d q μ H w a cs rfl rfl (RInv.init hr) hsz hh hg hd hq
      have hl : List.range' 0 ops.toList.length = List.range ops.size := by rw [List.range_eq_range']; simp
      rw [hl] at h
      have h2 := RAll.code h
      have hpl : planOf P need ops = ⟨planS P need ops ops.toList [] 0, planL P need ops ops.toList [] 0⟩ := by
        unfold planOf; rw [planGo_eq]; simp
      simp only [evCode, hpl]
      exact CAll.of_steps hh hh (.one stepR_region) (Adv.refl _ _ _) h2
    | true =>
      have hd2 : drawOK ops (dplan ops.toList 0 [] []) = true := by simpa using hok.2
      have h := hdr ops id hops hd2 b rd.isSome r d q H μ w a k cs0 cs hrd.isSome hr hsz hh hg hd hq
      simp only [evCode]
      exact RAll.code h
  | .seq x y, hok => fun b r d q H μ w a k cs0 cs hrd hr hsz hh hg hd hq => by
    simp only [okCode, Bool.and_eq_true] at hok
    have h1 := evCode_ok hc hdr hrs rd x hok.1 b r d q H μ w a (.code y :: k) cs0 cs hrd hr hsz hh hg hd hq
    simp only [evCode]
    cases hx : evCode P need rd call x r d q H with
    | fail s => trivial
    | ok e r' d' q' H' =>
      rw [hx] at h1
      obtain ⟨μ', w', a', cs', s1, s2, s3, s4, s5, s6, s7⟩ := h1
      by_cases he : e = .nrm
      · subst he
        have h2 := evCode_ok hc hdr hrs rd y hok.2 b r' d' q' H' μ' w' a' k cs0 cs' (hrd.mono s5.le) s2 s3 s4 (hg.mono s5.le) s6 s7
        exact h2.of_steps hh s4 (Steps.head stepR_seq s1) s5
      · rw [thenC_other he]
        exact ⟨μ', w', a', cs', (s1.pass (fun id h => by cases h) he).of_steps (.one stepR_seq), s2, s3, s4, s5, s6, s7⟩
  | .cond c x y, hok => fun b r d q H μ w a k cs0 cs hrd hr hsz hh hg hd hq => by
    simp only [okCode, Bool.and_eq_true] at hok
    simp only [evCode]
    have hev := (RInv.init (P := P) hr).eval (a := a) hg c
    split
    · rename_i hcv
      rw [hcv] at hev
      have h := evCode_ok hc hdr hrs rd x hok.1 b r d q H μ w a k cs0 cs hrd hr hsz hh hg hd hq
      exact h.of_steps hh hh (.one (stepR_cond (t := true) hev)) (Adv.refl _ _ _)
    · rename_i hcv
      rw [hcv] at hev
      have h := evCode_ok hc hdr hrs rd y hok.2 b r d q H μ w a k cs0 cs hrd hr hsz hh hg hd hq
      exact h.of_steps hh hh (.one (stepR_cond (t := false) hev)) (Adv.refl _ _ _)
    · trivial
  | .block id c, hok => fun b r d q H μ w a k cs0 cs hrd hr hsz hh hg hd hq => by
    have h1 := evCode_ok hc hdr hrs rd c hok b r d q H μ w a (.inBlock id :: k) cs0 cs hrd hr hsz hh hg hd hq
    simp only [evCode]
    cases hx : evCode P need rd call c r d q H with
    | fail s => trivial
    | ok e r' d' q' H' =>
      rw [hx] at h1
      obtain ⟨μ', w', a', cs', s1, s2, s3, s4, s5, s6, s7⟩ := h1
      cases e with
      | nrm => exact ⟨μ', w', a', cs', Steps.head stepR_block (Steps.trans s1 (.one stepR_inBlock)), s2, s3, s4, s5, s6, s7⟩
      | exit i =>
        obtain ⟨kk, e1, e2⟩ := s1
        by_cases hid : i = id
        · simp only [hid, if_true]
          subst hid
          have e3 : exitTo i kk = some k := by rw [e1]; simp [exitTo]
          exact ⟨μ', w', a', cs', Steps.head stepR_block (Steps.trans e2 (.one (stepR_exit e3))), s2, s3, s4, s5, s6, s7⟩
        · simp only [if_neg hid]
          have : (id == i) = false := by simp; exact fun h => hid h.symm
          exact ⟨μ', w', a', cs', ⟨kk, e1.trans (by simp [exitTo, this]), Steps.head stepR_block e2⟩, s2, s3, s4, s5, s6, s7⟩
      | ret => obtain ⟨kk, e2⟩ := s1; exact ⟨μ', w', a', cs', ⟨kk, Steps.head stepR_block e2⟩, s2, s3, s4, s5, s6, s7⟩
      | goto l => exact s1.elim
      | pan v => obtain ⟨kk, u, e1, e2⟩ := s1; exact ⟨μ', w', a', cs', ⟨kk, u, e1, Steps.head stepR_block e2⟩, s2, s3, s4, s5, s6, s7⟩
  | .loop c, hok => fun b r d q H μ w a k cs0 cs hrd hr hsz hh hg hd hq => by
    have h := loopN_ok (evCode_ok hc hdr hrs rd c hok) b k cs0 100000 r d q H μ w a cs hrd hr hsz hh hg hd hq
    simp only [evCode]
    exact h.of_steps hh hh (.one stepR_loop) (Adv.refl _ _ _)
  | .scope c, hok => fun b r d q H μ w a k cs0 cs hrd hr hsz hh hg hd hq => by
    have h1 := evCode_ok hc hdr hrs rd c hok b r d q H μ w a (.inScope c :: k) cs0 cs hrd hr hsz hh hg hd hq
    simp only [evCode]
    cases hx : evCode P need rd call c r d q H with
    | fail s => trivial
    | ok e r' d' q' H' =>
      rw [hx] at h1
      obtain ⟨μ', w', a', cs', s1, s2, s3, s4, s5, s6, s7⟩ := h1
      by_cases he : e = .nrm
      · subst he
        exact ⟨μ', w', a', cs', Steps.head stepR_scope (Steps.trans s1 (.one stepR_inScope)), s2, s3, s4, s5, s6, s7⟩
      · exact ⟨μ', w', a', cs', (s1.pass (fun id h => by cases h) he).of_steps (.one stepR_scope), s2, s3, s4, s5, s6, s7⟩
  | .rangeFunc f ps as bd, hok => fun b r d q H μ w a k cs0 cs hrd hr hsz hh hg hd hq => hrs f ps as bd hok b rd r d q H μ w a k cs0 cs hrd hr hsz hh hg hd hq
end
end AEv

/-
  THE ABSTRACT EVALUATOR: range over a function.
-/
namespace AEv
open Go

section
variable {P : Program} {need : Nat}

theorem apply_goes {w w0 : World} {cs : List Frame} {b : Frame} {a : Act} {l : Nat} {k : List Item} {s : Sem Next} {fr0 : Frame}
    (hst : (stepG P true { frame := fr0, callers := cs, status := .running, dying := none } w0).bare = (stepG.apply P true (b.atR a (.inRangeFunc l :: k)) cs none s w).bare) :
    (∀ v w', s.run P w = .ok (.value v) w' → Steps P (lone fr0 cs w0) (lone ((b.atR a (.inRangeFunc l :: k)).finish v) cs w')) ∧
    (∀ f args w', s.run P w = .ok (.enter f args) w' → Steps P (lone fr0 cs w0) (lone (Frame.enter P f args .normal) (b.atR a (.inRangeFunc l :: k) :: cs) w')) ∧
    (∀ l' f tmps assign body w', s.run P w = .ok (.round l' f tmps assign body) w' → Steps P (lone fr0 cs w0) (lone (Frame.round l' f tmps assign body .normal) (b.atR a (.inRangeFunc l :: k) :: cs) w')) := by
  refine ⟨fun v w' hr => .one (step_lone_go ?_), fun f args w' hr => .one (step_lone_go ?_), fun l f tmps assign body w' hr => .one (step_lone_go ?_)⟩
  · rw [hst]; simp [stepG.apply, hr]
  · rw [hst]; simp [stepG.apply, hr, Frame.atR]
  · rw [hst]; simp [stepG.apply, hr]

theorem stepG_range {b : Frame} {a : Act} {f : Operand} {ps : Array Nat} {as bd : Code} {k : List Item} {cs : List Frame} {w w1 : World} {l : Nat} {mark : List Deferred} (he : (Instr.enterLoop b.fn a.tmps ps as bd b.roundOf).run P w = .ok (l, mark) w1) :
    (stepG P true { frame := b.atR a (.code (.rangeFunc f ps as bd) :: k), callers := cs, status := .running, dying := none } w).bare =
      (stepG.apply P true (b.atR { tmps := a.tmps, defers := mark ++ a.defers } (.inRangeFunc l :: k)) cs none (do let d ← Deferred.ofValue (a.eval f) #[.func (.yield l) #[] #[]]; invoke d.target d.args) w1).bare := by
  have he2 := Frame.eval_atR b { tmps := a.tmps, defers := mark ++ a.defers } (.inRangeFunc l :: k)
  simp only [Frame.atR] at he2
  have he3 : ({ tmps := a.tmps, defers := mark ++ a.defers } : Act).eval = a.eval := funext fun x => by cases x <;> rfl
  simp only [stepG, stepG.exec, Frame.atR, Sem.runT_eq, he, GStep.bare_after]
  have he4 : resolve a.eval { callee := .value f, args := #[.const (.func (.yield l) #[] #[])], argTypes := #[] } 0 = Deferred.ofValue (a.eval f) #[.func (.yield l) #[] #[]] := by simp [resolve, Act.eval]
  rw [he2, he3, he4]

theorem stepR_endRange {b : Frame} {a : Act} {l : Nat} {k : List Item} {cs : List Frame} {w w' : World} {jump : Option Code} (he : (Instr.endLoop l).run P w = .ok jump w') :
    step P (lone (b.atR a (.endRangeFunc l :: k)) cs w) = .next (lone (b.atR a ((jump.map Item.code).toList ++ k)) cs w') :=
  step_lone_go (by simp [stepG, stepG.exec, Frame.atR, Sem.runT_eq, he])

/-- The loop's record, and what is deferred. -/
theorem enter_ok {nt : Nat} {b : Frame} {a : Act} {r : Tr} {ps : Array Nat} {as bd : Code} (hok : okCode nt as = true ∧ okCode nt bd = true ∧ ∀ t ∈ ps.toList, t < nt) {μ : Mu} {H : AHeap} {w : World} {rd : Option Nat} (hrd : RdRel μ b rd) (hr : RegsRel need μ r a.tmps) (hsz : a.tmps.size = nt) (hh : HRel μ H w)
    {d : List ADef} (hd : DRels μ d a.defers) {l : Nat} {d' : List ADef} {H1 : AHeap}
    (hl : l = rangeL rd H.n) (he : rangeSt need rd r ps.toList as bd d H = some (d', H1)) :
    ∃ μ' w' mark i, (Instr.enterLoop b.fn a.tmps ps as bd b.roundOf).run P w = .ok (i.blk, mark) w' ∧ μ' l = some i ∧ HRel μ' H1 w' ∧ Adv μ H w μ' H1 w' ∧ DRels μ' d' (mark ++ a.defers) := by
  subst hsz
  unfold rangeL at hl
  unfold rangeSt at he
  cases rd with
  | none =>
    have hb : b.roundOf = none := hrd
    cases he
    obtain ⟨r1, r2⟩ := hh.alloc (.defrd (some [])) (.deferred (some [])) 0 ⟨[], World.heap_alloc_new _ _, rfl⟩
    have hu : upd μ H.n ⟨w.heap.size, 0, 0⟩ H.n = some ⟨w.heap.size, 0, 0⟩ := upd_same _ _ _
    have hle2 := r1.le_upd ⟨(w.alloc (.deferred (some []))).heap.size, 0, 0⟩
    obtain ⟨q1, q2⟩ := r1.alloc (.loop .ready none need r ps.toList as bd H.n) (.loop { state := .ready, pending := none, fn := b.fn, tmps := a.tmps, params := ps, assign := as, body := bd, defers := w.heap.size }) 0
      ⟨a.tmps, ⟨w.heap.size, 0, 0⟩, b.fn, hle2 _ _ hu, World.heap_alloc_new _ _, hr.mono (r2.le.trans hle2), hok.1, hok.2.1, hok.2.2⟩
    refine ⟨_, _, [{ target := .collected w.heap.size, args := #[] }], ⟨(w.alloc (.deferred (some []))).heap.size, 0, 0⟩, ?_, ?_, q1, Adv.trans hh r1 r2 q2, ⟨_, _, rfl, .collected _ ⟨w.heap.size, 0, 0⟩ (hle2 _ _ hu), hd.mono (r2.le.trans hle2)⟩⟩
    · rw [hb]
      simp only [Instr.enterLoop, Sem.run_bind, run_newObj, Result.andThen_ok, Sem.run_pure]
      rfl
    · rw [hl]; exact upd_same _ _ _
  | some l0 =>
    obtain ⟨j, hj, hb⟩ := hrd
    simp only at hl he
    subst hl
    cases hg : H.get l0 with
    | none => rw [hg] at he; cases he
    | some og =>
    rw [hg] at he
    cases og <;> try (cases he; done)
    case loop st0 pend0 need0 regs0 ps0 as0 bd0 df =>
      cases he
      obtain ⟨tm, dj, fn, e1, e2, _⟩ := hh.rel _ _ j hg hj
      have hle := hh.le_upd ⟨w.heap.size, 0, 0⟩
      obtain ⟨q1, q2⟩ := hh.alloc (.loop .ready none need r ps.toList as bd df) (.loop { state := .ready, pending := none, fn := b.fn, tmps := a.tmps, params := ps, assign := as, body := bd, defers := dj.blk }) 0
        ⟨a.tmps, dj, b.fn, hle _ _ e1, World.heap_alloc_new _ _, hr.mono hle, hok.1, hok.2.1, hok.2.2⟩
      refine ⟨_, _, [], ⟨w.heap.size, 0, 0⟩, ?_, ?_, q1, q2, hd.mono hle⟩
      · rw [hb]
        have hgl : (Instr.getLoop j.blk).run P w = .ok { state := st0, pending := pend0, fn := fn, tmps := tm, params := ⟨ps0⟩, assign := as0, body := bd0, defers := dj.blk } w := by
          have : (getObj j.blk).run P w = .ok (.loop { state := st0, pending := pend0, fn := fn, tmps := tm, params := ⟨ps0⟩, assign := as0, body := bd0, defers := dj.blk }) w := by simp [getObj, Sem.run, e2]
          simp only [Instr.getLoop, Sem.run_bind, this]; rfl
        simp only [Instr.enterLoop, Sem.run_bind, hgl, Result.andThen_ok, Sem.run_pure, run_newObj]
        rfl
      · exact upd_same _ _ _

theorem endLoop_ok {μ : Mu} {H : AHeap} {w : World} (hh : HRel μ H w) {l : Nat} {i : Img} (hl : μ l = some i) {st : LoopState} {pend : Option Code} {nd : Nat} {rg : Tr} {ps : List Nat} {as bd : Code} {df : Nat} (hg : H.get l = some (.loop st pend nd rg ps as bd df)) (hst : st ≠ .busy) :
    ∃ w', (Instr.endLoop i.blk).run P w = .ok pend w' ∧ HRel μ (H.set l (some (.loop .exhausted pend nd rg ps as bd df))) w' ∧ Adv μ H w μ (H.set l (some (.loop .exhausted pend nd rg ps as bd df))) w' := by
  obtain ⟨tm, dj, fn, e1, e2, e3⟩ := hh.rel _ _ i hg hl
  have hlt := (hh.lt _ _ hl).2
  obtain ⟨r1, r2⟩ := hh.update (w' := { w with heap := w.heap.setIfInBounds i.blk (.loop { state := .exhausted, pending := pend, fn := fn, tmps := tm, params := ⟨ps⟩, assign := as, body := bd, defers := dj.blk }) }) (o' := .loop .exhausted pend nd rg ps as bd df) hg rfl hl (by simp) (fun r hr => by simp [Array.getElem?_setIfInBounds]; intro e; exact absurd e.symm hr) rfl rfl rfl
    ⟨tm, dj, fn, e1, by simp [hlt], e3⟩
  refine ⟨_, ?_, r1, r2⟩
  have hgo : (getObj i.blk).run P w = .ok (.loop { state := st, pending := pend, fn := fn, tmps := tm, params := ⟨ps⟩, assign := as, body := bd, defers := dj.blk }) w := by simp [getObj, Sem.run, e2]
  have hso : (setObj i.blk (.loop { state := .exhausted, pending := pend, fn := fn, tmps := tm, params := ⟨ps⟩, assign := as, body := bd, defers := dj.blk })).run P w = .ok () { w with heap := w.heap.setIfInBounds i.blk (.loop { state := .exhausted, pending := pend, fn := fn, tmps := tm, params := ⟨ps⟩, assign := as, body := bd, defers := dj.blk }) } := by simp [setObj, Sem.run, e2]
  have hb : (st == LoopState.busy) = false := by cases st <;> first | rfl | exact absurd rfl hst
  simp only [Instr.endLoop, Instr.getLoop, Sem.run_bind, hgo, Result.andThen_ok, Sem.run_pure, hb, Bool.false_eq_true, if_false, hso]

theorem rangeSpec {nt : Nat} {call : CallT → List AV → AHeap → FRes} (hc : CallOK P call) : RangeSpec P need nt call := by
  intro f ps as bd hok b rd r d q H μ w a k cs0 cs hrd hr hsz hh hg hd hq
  simp only [okCode, Bool.and_eq_true, List.all_eq_true] at hok
  have hps : ∀ t ∈ ps.toList, t < nt := fun t ht => by simpa using hok.1.1 t ht
  have hev := (RInv.init (P := P) hr).eval (a := a) hg f
  simp only [evCode]
  cases hst : rangeSt need rd r ps.toList as bd d H with
  | none => trivial
  | some p =>
    obtain ⟨d', H1⟩ := p
    simp only
    obtain ⟨μ1, w1, mark, i, h1, h2, h3, h4, h5⟩ := enter_ok (P := P) (b := b) (a := a) (ps := ps) ⟨hok.1.2, hok.2, hps⟩ hrd hr hsz hh hd rfl hst
    have hev1 := hev.mono h4.le
    have hsg := stepG_range (P := P) (f := f) (k := k) (cs := cs) h1
    obtain ⟨g1, g2, g3⟩ := apply_goes hsg
    have hcv := callVal_ok (P := P) (w := w1) h3 hev1 (args := [.yld (rangeL rd H.n)]) (vs := [.func (.yield i.blk) #[] #[]]) ⟨_, _, rfl, ⟨i, h2, rfl⟩, rfl⟩
    -- behind the function
    have fin : ∀ (res : FRes), Lands P (lone (b.atR a (.code (.rangeFunc f ps as bd) :: k)) cs w) (b.atR { tmps := a.tmps, defers := mark ++ a.defers } (.inRangeFunc i.blk :: k)) cs (Ends μ1 H1 w1 res) →
        CAll P need nt μ H w b k cs0 (lone (b.atR a (.code (.rangeFunc f ps as bd) :: k)) cs w) (rangeEnd (rangeL rd H.n) r d' q res) := by
      intro res hl
      obtain ⟨e, w3, hE, hS⟩ := hl
      cases res with
      | fail s => trivial
      | pan v H3 =>
        obtain ⟨μ', u, rfl, q1, q2, q3⟩ := hE
        exact ⟨μ', w3, { tmps := a.tmps, defers := mark ++ a.defers }, cs, ⟨.inRangeFunc i.blk :: k, u, ⟨q1, trivial⟩, hS⟩, hr.mono (h4.le.trans q3.le), hsz, q2, Adv.trans hh h3 h4 q3, h5.mono q3.le, hq.mono (h4.le.trans q3.le)⟩
      | ret v H3 =>
        obtain ⟨μ', u, rfl, q1, q2, q3⟩ := hE
        have hfin : (b.atR { tmps := a.tmps, defers := mark ++ a.defers } (.inRangeFunc i.blk :: k)).finish u = b.atR { tmps := a.tmps, defers := mark ++ a.defers } (.endRangeFunc i.blk :: k) := rfl
        simp only [hfin] at hS
        unfold rangeEnd
        simp only
        cases hg3 : H3.get (rangeL rd H.n) with
        | none => trivial
        | some og =>
          cases og <;> try trivial
          case loop st pend nd rg ps' as' bd' df =>
            simp only
            by_cases hb : st = .busy
            · subst hb; trivial
            · obtain ⟨w4, e1, e2, e3⟩ := endLoop_ok (P := P) q2 (q3.le _ _ h2) hg3 hb
              have hs2 := Steps.trans hS (.one (stepR_endRange (b := b) (a := { tmps := a.tmps, defers := mark ++ a.defers }) (k := k) (cs := cs) e1))
              have hle := h4.le.trans (q3.le.trans e3.le)
              have hadv := Adv.trans hh q2 (Adv.trans hh h3 h4 q3) e3
              have done : ∀ (e : AEx), EndsAt P μ' (lone (b.atR a (.code (.rangeFunc f ps as bd) :: k)) cs w) b k cs { tmps := a.tmps, defers := mark ++ a.defers } w4 e →
                  CAll P need nt μ H w b k cs0 (lone (b.atR a (.code (.rangeFunc f ps as bd) :: k)) cs w) (.ok e r d' q (H3.set (rangeL rd H.n) (some (.loop .exhausted pend nd rg ps' as' bd' df)))) := fun e he =>
                ⟨μ', w4, { tmps := a.tmps, defers := mark ++ a.defers }, cs, he, hr.mono hle, hsz, e2, hadv, h5.mono (q3.le.trans e3.le), hq.mono hle⟩
              have hfork : ∀ X : CRes, (match st with | .busy => CRes.fail "rangeFunc: busy" | _ => X) = X := fun X => by cases st <;> first | rfl | exact absurd rfl hb
              cases st <;> first
                | exact absurd rfl hb
                | (cases pend with
                  | none => exact done .nrm hs2
                  | some c =>
                    cases c <;> first
                      | trivial
                      | exact done .ret ⟨k, hs2⟩
                      | exact done (.exit _) ⟨k, rfl, hs2⟩)
    cases hcval : callVal (getAcc 0 [] r (accOf P need [] f)) [.yld (rangeL rd H.n)] H1 with
    | call g args H2 =>
      rw [hcval] at hcv
      obtain ⟨rfl, vs, e1, e2⟩ := hcv
      simp only
      cases hgood : (call (.fn g) args H2).good with
      | false => obtain ⟨s, hs⟩ := good_false hgood; rw [hs]; trivial
      | true =>
        apply fin
        rcases hc.fn g args H2 hgood μ1 w1 vs h3 (hg.mono h4.le) e2 with ⟨v, w', q1, q2⟩ | ⟨q1, q2⟩
        · rw [← e1] at q1
          exact ⟨_, _, q2, g1 _ _ q1⟩
        · rw [← e1] at q1
          exact (lands_of_calls (ends_not_outgrown hgood) q2 _ _).of_steps (g2 _ _ _ q1)
    | yld l2 args H2 =>
      rw [hcval] at hcv
      obtain ⟨rfl, im, vs, hl2, e1, e2⟩ := hcv
      simp only
      cases hgood : (call (.yld l2) args H2).good with
      | false => obtain ⟨s, hs⟩ := good_false hgood; rw [hs]; trivial
      | true =>
        apply fin
        obtain ⟨f', tmps, as', bd', q1, q2⟩ := hc.yld l2 args H2 hgood μ1 w1 im vs h3 (hg.mono h4.le) hl2 e2
        rw [← e1] at q1
        exact (q2 _ _).of_steps (g3 _ _ _ _ _ _ q1)
    | val v H2 => trivial
    | pan v H2 => trivial
    | dfr x => trivial
    | rcv => trivial
    | fail s => trivial
end
end AEv

/-
  THE ABSTRACT EVALUATOR: functions, rounds, calls.
-/
namespace AEv
open Go

section
variable {P : Program}

theorem initRegs_get : ∀ (l : List AV) (i : Nat) (r : Tr) (t : Nat), (initRegs i l r).get (pth t) = if i ≤ t ∧ t < i + l.length then (l[t - i]?).getD .bad else r.get (pth t)
  | [], i, r, t => by
    simp only [initRegs, List.length_nil]
    rw [if_neg (by omega)]
  | v :: l, i, r, t => by
    simp only [initRegs, initRegs_get l (i + 1), Tr.get_set, List.length_cons]
    by_cases h : i + 1 ≤ t ∧ t < i + 1 + l.length
    · rw [if_pos h, if_pos (by omega)]
      have : t - i = (t - (i + 1)) + 1 := by omega
      rw [this]; simp
    · rw [if_neg h]
      by_cases e : t = i
      · subst e; rw [if_pos rfl, if_pos (by omega)]; simp
      · rw [if_neg e, if_neg (by omega)]
theorem init_rel {need : Nat} {μ : Mu} {args : List AV} {vs : List Value} (h : VRels μ args vs) (n : Nat) : RegsRel need μ (initRegs 0 args .leaf) (⟨vs⟩ ++ Array.replicate n undef) := by
  intro t _
  rw [initRegs_get]
  have hl := h.length
  by_cases ht : t < args.length
  · rw [if_pos (by omega)]
    simp only [Nat.sub_zero]
    obtain ⟨v, hv, hr⟩ := h.get (List.getElem?_eq_getElem ht)
    rw [List.getElem?_eq_getElem ht]
    rw [Array.getD_eq_getD_getElem?, Array.getElem?_append_left (by simp; omega)]
    simp only [List.getElem?_toArray, hv, Option.getD_some]
    exact hr
  · rw [if_neg (by omega), Tr.get_leaf]; trivial

theorem oneA_ok {need : Nat} {μ : Mu} {H : AHeap} {w : World} (hh : HRel μ H w) {r : Tr} {tm : Array Value} (hr : RegsRel need μ r tm) {x : ResultVar} {v : AV} (h : oneA P need r H x = some v) :
    ∃ u, ((match x with | .tmp t => pure (tm.getD t undef) | .cell a t => do loadVar t (← asAddr (tm.getD a undef)) : Sem Value)).run P w = .ok u w ∧ VRel μ v u := by
  unfold oneA at h
  cases x with
  | tmp t =>
    simp only at h
    split at h
    · rename_i hb; cases h; exact ⟨_, rfl, hr t hb⟩
    · cases h
  | cell t ty =>
    simp only at h
    split at h
    · rename_i hb
      have h1 := hr t hb
      split at h
      · rename_i b off n hp ha hn
        rw [hp] at h1
        obtain ⟨i, hi, hv⟩ := h1
        split at h
        · rename_i cs hl
          cases h
          obtain ⟨us, q1, q2⟩ := loadCells_rel (P := P) hh hi hl
          refine ⟨.agg ⟨us⟩, ?_, us, rfl, q2⟩
          simp [hv, asAddr, loadVar, run_isAgg ha, run_sizeOf hn, q1]
        · cases h
      · rename_i b off hp ha
        rw [hp] at h1
        obtain ⟨i, hi, hv⟩ := h1
        obtain ⟨u, q1, q2⟩ := load1_rel (P := P) hh hi h
        refine ⟨u, ?_, q2⟩
        simp only [hv, asAddr, loadVar, Sem.run_bind, Sem.run_pure, Result.andThen_ok, run_isAgg ha, Bool.false_eq_true, if_false, q1]
      · cases h
    · cases h
theorem allA_ok {need : Nat} {μ : Mu} {H : AHeap} {w : World} (hh : HRel μ H w) {r : Tr} {tm : Array Value} (hr : RegsRel need μ r tm) : ∀ (l : List ResultVar) (vs : List AV), allA (oneA P need r H) l = some vs →
    ∃ us : List Value, (l.mapM (fun x => (match x with | .tmp t => pure (tm.getD t undef) | .cell a t => do loadVar t (← asAddr (tm.getD a undef)) : Sem Value))).run P w = .ok us w ∧ VRels μ vs us
  | [], vs, h => by cases h; exact ⟨[], rfl, rfl⟩
  | x :: l, vs, h => by
    simp only [allA] at h
    split at h
    · rename_i v vs' h1 h2
      cases h
      obtain ⟨u, q1, q2⟩ := oneA_ok hh hr h1
      obtain ⟨us, q3, q4⟩ := allA_ok hh hr l vs' h2
      refine ⟨u :: us, ?_, ⟨_, _, rfl, q2, q4⟩⟩
      rw [List.mapM_cons]
      simp only [Sem.run_bind]
      rw [q1]
      simp only [Result.andThen_ok, Sem.run_bind, q3, Sem.run_pure]
    · cases h
theorem resultsA_ok {need : Nat} {μ : Mu} {H : AHeap} {w : World} (hh : HRel μ H w) {fn : Func} {r : Tr} {tm : Array Value} (hr : RegsRel need μ r tm) {v : AV} (h : resultsA P need fn r H = some v) :
    ∃ u, (results fn tm).run P w = .ok u w ∧ VRel μ v u := by
  unfold resultsA at h
  have hres : ∀ us : List Value, (fn.results.toList.mapM (fun x => (match x with | .tmp t => pure (tm.getD t undef) | .cell a t => do loadVar t (← asAddr (tm.getD a undef)) : Sem Value))).run P w = .ok us w →
      (results fn tm).run P w = .ok (if h : (⟨us⟩ : Array Value).size = 1 then (⟨us⟩ : Array Value)[0] else .tuple ⟨us⟩) w := by
    intro us hus
    have hm : (fn.results.mapM (fun x => (match x with | .tmp t => pure (tm.getD t undef) | .cell a t => do loadVar t (← asAddr (tm.getD a undef)) : Sem Value))).run P w = .ok ⟨us⟩ w := by
      rw [Array.mapM_eq_mapM_toList]
      simp only [map_eq_pure_bind, Sem.run_bind]
      rw [hus]; rfl
    unfold results
    simp only [Sem.run_bind]
    refine Eq.trans (congrArg (fun q => Result.andThen q _) hm) ?_
    rfl
  split at h
  · rename_i v' ha
    cases h
    obtain ⟨us, q1, q2⟩ := allA_ok hh hr _ _ ha
    obtain ⟨u, us', rfl, q3, q4⟩ := q2
    cases q4
    exact ⟨_, hres _ q1, q3⟩
  · rename_i vs hne ha
    cases h
    obtain ⟨us, q1, q2⟩ := allA_ok hh hr _ _ ha
    refine ⟨_, hres _ q1, ?_⟩
    have : ¬ ((⟨us⟩ : Array Value).size = 1) := by
      intro e
      have hl := q2.length
      have e' : us.length = 1 := e
      rw [e'] at hl
      obtain ⟨x, hx⟩ := List.length_eq_one_iff.1 hl
      exact hne x hx
    rw [dif_neg this]
    exact ⟨us, rfl, q2⟩
  · cases h
theorem body_ok {call : CallT → List AV → AHeap → FRes} (hc : CallOK P call) (hdr : ∀ need nt, DrawSpec P need nt call) {f : FuncId} {fn : Func} (hf : P.funcs[f]? = some fn) {kind : CallKind} {c : Code} (hb : fn.body = some c) (hok : okCode fn.ntmps c = true)
    {args : List AV} {vs : List Value} {q : Rc} {H : AHeap} {μ : Mu} {w : World} {cs0 cs : List Frame} (hv : VRels μ args vs) (hh : HRel μ H w) (hg : GRel P μ) (hq : QRel μ kind cs0 q cs) :
    CAll P (needFn fn) fn.ntmps μ H w { (default : Frame) with fn := f, kind := kind } [] cs0 (lone (Frame.enter P f ⟨vs⟩ kind) cs w) (evBody P call fn args q H) := by
  unfold evBody
  rw [hb]
  simp only
  cases hle : Nat.ble args.length fn.ntmps with
  | false => trivial
  | true =>
    have hle' : args.length ≤ fn.ntmps := by simpa using hle
    have hlen := hv.length
    simp only
    have henter : Frame.enter P f ⟨vs⟩ kind = ({ (default : Frame) with fn := f, kind := kind } : Frame).atR { tmps := ⟨vs⟩ ++ Array.replicate (fn.ntmps - vs.length) undef, defers := [] } [.code c] := by
      simp [Frame.enter, Frame.atR, hf, hb]
      rfl
    rw [henter]
    exact evCode_ok hc (hdr _ _) (rangeSpec hc) none c hok { (default : Frame) with fn := f, kind := kind } (initRegs 0 args .leaf) [] q H μ w { tmps := ⟨vs⟩ ++ Array.replicate (fn.ntmps - vs.length) undef, defers := [] } [] cs0 cs rfl (init_rel hv _) (by simp; omega) hh hg rfl hq
/-- What is asked of a program, once for all. -/
def OKProg (P : Program) : Prop := ∀ (g : FuncId) (gn : Func) (gc : Code), P.funcs[g]? = some gn → gn.body = some gc → okCode gn.ntmps gc = true ∧ (gn.name == "runtime.NumGoroutine") = false
theorem callFunc_enter {f : FuncId} {fn : Func} {c : Code} (hf : P.funcs[f]? = some fn) (hb : fn.body = some c) (hn : (fn.name == "runtime.NumGoroutine") = false) (args : Array Value) (w : World) : (callFunc f args).run P w = .ok (.enter f args) w := by
  have hn' : ¬ fn.name = "runtime.NumGoroutine" := by simpa using hn
  simp [callFunc, hf, hn', hb]

def PRel (μ : Mu) : Option AV → FrameMode → Prop
  | none, m => m = .returning
  | some v, m => ∃ u, m = .panicking [{ v := u, recovered := false }] ∧ VRel μ v u
theorem PRel.mono {μ μ' : Mu} (hle : Le μ μ') {pn : Option AV} {m : FrameMode} (h : PRel μ pn m) : PRel μ' pn m := by
  cases pn with
  | none => exact h
  | some v => obtain ⟨u, h1, h2⟩ := h; exact ⟨u, h1, h2.mono hle⟩
theorem PRel.run {μ : Mu} {pn : Option AV} {m : FrameMode} (h : PRel μ pn m) : m ≠ .run := by
  cases pn with
  | none => intro e; cases h.symm.trans e
  | some v => obtain ⟨u, h1, _⟩ := h; intro e; cases h1.symm.trans e
theorem PRel.q {μ : Mu} {pn : Option AV} {c : Frame} {cs : List Frame} (h : PRel μ pn c.mode) : QRel μ .deferred (c :: cs) (rcOf pn) (c :: cs) := by
  cases pn with
  | none =>
    refine ⟨rfl, fun fr hk => ?_⟩
    have h' : c.mode = .returning := h
    simp only [tryRecover, hk, h']
  | some v => obtain ⟨u, h1, h2⟩ := h; exact ⟨rfl, rfl, c, cs, u, rfl, h1, h2⟩

theorem takeDeferred_ok {μ : Mu} {H : AHeap} {w : World} (hh : HRel μ H w) {r : Nat} {i : Img} (hi : μ r = some i) {cs : List ADef} (hg : H.get r = some (.defrd (some cs))) :
    ∃ w' l, (Instr.takeDeferred i.blk).run P w = .ok l w' ∧ DRels μ cs l ∧ HRel μ (H.set r (some (.defrd none))) w' ∧ Adv μ H w μ (H.set r (some (.defrd none))) w' := by
  obtain ⟨l, e1, e2⟩ := hh.rel _ _ i hg hi
  have hlt := (hh.lt _ _ hi).2
  obtain ⟨r1, r2⟩ := hh.update (w' := { w with heap := w.heap.setIfInBounds i.blk (.deferred none) }) (o' := .defrd none) hg rfl hi (by simp) (fun r hr => by simp [Array.getElem?_setIfInBounds]; intro e; exact absurd e.symm hr) rfl rfl rfl
    (show ({ w with heap := w.heap.setIfInBounds i.blk (.deferred none) } : World).heap[i.blk]? = some (.deferred none) by simp [hlt])
  refine ⟨_, l, ?_, e2, r1, r2⟩
  have hgo : (getObj i.blk).run P w = .ok (.deferred (some l)) w := by simp [getObj, Sem.run, e1]
  have hso : (setObj i.blk (.deferred none)).run P w = .ok () { w with heap := w.heap.setIfInBounds i.blk (.deferred none) } := by simp [setObj, Sem.run, e1]
  simp only [Instr.takeDeferred, Sem.run_bind, hgo, Result.andThen_ok, hso, Sem.run_pure]
end
end AEv

/-
  THE ABSTRACT EVALUATOR: deferred calls; a function as a whole.
-/
namespace AEv
open Go

section
variable {P : Program}

theorem step_take {fr : Frame} {cs : List Frame} {w w' : World} {b : Nat} {args : Array Value} {ds calls : List Deferred} (hm : fr.mode ≠ .run) (hd : fr.defers = { target := .collected b, args := args } :: ds) (ht : (Instr.takeDeferred b).run P w = .ok calls w') :
    step P (lone fr cs w) = .next (lone { fr with defers := calls ++ ds } cs w') := by
  refine step_lone_go ?_
  cases hmode : fr.mode with
  | run => exact absurd hmode hm
  | returning => simp [stepG, unwind, hmode, hd, Sem.runT_eq, ht]
  | panicking chain => simp [stepG, unwind, hmode, hd, Sem.runT_eq, ht]

theorem Ends.trans {μ μ1 : Mu} {H H1 : AHeap} {w w1 : World} {x : FRes} {e : Ending} {w' : World} (hh : HRel μ H w) (hh1 : HRel μ1 H1 w1) (ha : Adv μ H w μ1 H1 w1) (h : Ends μ1 H1 w1 x e w') : Ends μ H w x e w' := by
  cases x with
  | ret v H' => obtain ⟨μ', u, h1, h2, h3, h4⟩ := h; exact ⟨μ', u, h1, h2, h3, Adv.trans hh hh1 ha h4⟩
  | pan v H' => obtain ⟨μ', u, h1, h2, h3, h4⟩ := h; exact ⟨μ', u, h1, h2, h3, Adv.trans hh hh1 ha h4⟩
  | fail s => trivial

theorem evDefers_ok {call : CallT → List AV → AHeap → FRes} (hc : CallOK P call) (hdr : ∀ need nt, DrawSpec P need nt call) (hall : OKProg P) {need : Nat} {fn : Func} {r : Tr} :
    ∀ (k : Nat) (pn : Option AV) (ds : List ADef) (H : AHeap) (μ : Mu) (w : World) (fr : Frame) (cs : List Frame), (evDefers P call need fn r k pn ds H).good = true → HRel μ H w → GRel P μ → RegsRel need μ r fr.tmps → P.funcs[fr.fn]? = some fn → fr.kind = .normal →
      DRels μ ds fr.defers → PRel μ pn fr.mode → ∃ e w' fr', Ends μ H w (evDefers P call need fn r k pn ds H) e w' ∧ Steps P (lone fr cs w) (lone fr' cs w') ∧ fr'.fn = fr.fn ∧ fr'.leaving P w' e
  | 0, pn, ds, H, μ, w, fr, cs, hgood, hh, hg, hr, hf, hk, hd, hp => by cases hgood
  | k + 1, pn, [], H, μ, w, fr, cs, hgood, hh, hg, hr, hf, hk, hd, hp => by
    have hd0 : fr.defers = [] := hd
    cases pn with
    | none =>
      simp only [evDefers] at hgood ⊢
      cases hres : resultsA P need fn r H with
      | none => rw [hres] at hgood; cases hgood
      | some v =>
        obtain ⟨u, q1, q2⟩ := resultsA_ok (P := P) hh hr hres
        exact ⟨.returned u, w, fr, ⟨μ, u, rfl, q2, hh, Adv.refl _ _ _⟩, Steps.refl _ _, rfl, hp, hd0, hk, fn, hf, q1⟩
    | some v =>
      obtain ⟨u, h1, h2⟩ := hp
      exact ⟨.panicked _, w, fr, ⟨μ, u, rfl, h2, hh, Adv.refl _ _ _⟩, Steps.refl _ _, rfl, h1, hd0, fn, hf⟩
  | k + 1, pn, .collected b :: ds, H, μ, w, fr, cs, hgood, hh, hg, hr, hf, hk, hd, hp => by
    obtain ⟨dd, dl, hfd, h1, h2⟩ := hd
    cases h1 with
    | collected _ i hi =>
    simp only [evDefers] at hgood ⊢
    cases hgb : H.get b with
    | none => rw [hgb] at hgood; cases hgood
    | some o =>
      rw [hgb] at hgood
      cases o <;> try (cases hgood; done)
      case defrd calls =>
        cases calls with
        | none => cases hgood
        | some csl =>
          simp only at hgood ⊢
          obtain ⟨w', l, e1, e2, e3, e4⟩ := takeDeferred_ok (P := P) hh hi hgb
          have hs := step_take (cs := cs) hp.run hfd e1
          obtain ⟨e, w2, fr2, r1, r2, r3, r4⟩ := evDefers_ok hc hdr hall k pn (csl ++ ds) _ μ w' { fr with defers := l ++ dl } cs hgood e3 hg hr hf hk (e2.append h2) hp
          refine ⟨e, w2, fr2, ?_, Steps.head hs r2, r3, r4⟩
          exact Ends.trans hh e3 e4 r1
  | k + 1, pn, .call g args :: ds, H, μ, w, fr, cs, hgood, hh, hg, hr, hf, hk, hd, hp => by
    obtain ⟨dd, dl, hfd, h1, h2⟩ := hd
    cases h1 with
    | call _ _ cap vs hvs =>
    simp only [evDefers] at hgood ⊢
    cases hgf : P.funcs[g]? with
    | none => rw [hgf] at hgood; cases hgood
    | some gn =>
      rw [hgf] at hgood
      simp only at hgood ⊢
      cases hbody : gn.body with
      | none =>
        have : evBody P call gn args (rcOf pn) H = .fail "no body" := by simp [evBody, hbody]
        rw [this] at hgood; cases hgood
      | some gc =>
        obtain ⟨ok1, ok2⟩ := hall g gn gc hgf hbody
        have hq : QRel μ .deferred ({ fr with defers := dl } :: cs) (rcOf pn) ({ fr with defers := dl } :: cs) := PRel.q (c := { fr with defers := dl }) hp
        have hb := body_ok (P := P) hc hdr hgf (kind := .deferred) hbody ok1 (args := args) (vs := vs ++ cap) (q := rcOf pn) hvs hh hg hq
        have hinv : (invoke (.fn (.func g) ⟨cap⟩) ⟨vs⟩).run P w = .ok (.enter g ⟨vs ++ cap⟩) w := by
          have := callFunc_enter (P := P) hgf hbody ok2 (⟨vs⟩ ++ ⟨cap⟩) w
          simpa [invoke] using this
        have hs0 := step_defer (P := P) (cs := cs) hp.run hfd (d := { target := .fn (.func g) ⟨cap⟩, args := ⟨vs⟩ }) rfl hinv
        cases hx : evBody P call gn args (rcOf pn) H with
        | fail s => rw [hx] at hgood; cases hgood
        | ok e r' d' q' H' =>
          rw [hx] at hgood hb
          obtain ⟨μ', w', a', cs', s1, s2, s3, s4, s5, s6, s7⟩ := hb
          simp only [didDefer] at hgood ⊢
          cases hres : resultsA P (needFn gn) gn r' H' with
          | none => rw [hres] at hgood; cases e <;> cases d' <;> cases hgood
          | some rv =>
            rw [hres] at hgood
            obtain ⟨u, q1, q2⟩ := resultsA_ok (P := P) s4 s2 hres
            -- the frame of the deferred function, done
            have main : ∀ (he : e = .nrm ∨ e = .ret) (hd0 : d' = []) (hgd : (evDefers P call need fn r k (settleA q' pn) ds H').good = true),
                ∃ e2 w2 fr2, Ends μ H w (evDefers P call need fn r k (settleA q' pn) ds H') e2 w2 ∧ Steps P (lone fr cs w) (lone fr2 cs w2) ∧ fr2.fn = fr.fn ∧ fr2.leaving P w2 e2 := by
              intro he hd0 hgd
              subst hd0
              have hda : a'.defers = [] := s6
              have hret : ∃ todo, Steps P (lone (Frame.enter P g ⟨vs ++ cap⟩ .deferred) ({ fr with defers := dl } :: cs) w) (lone { ({ (default : Frame) with fn := g, kind := .deferred } : Frame).atR a' todo with mode := .returning } cs' w') := by
                rcases he with rfl | rfl
                · exact ⟨_, Steps.trans s1 (.one (stepR_end rfl))⟩
                · obtain ⟨kk, hkk⟩ := s1
                  exact ⟨_, Steps.trans hkk (.one (stepR_ret rfl))⟩
              obtain ⟨todo, hret⟩ := hret
              have hgo : ({ ({ (default : Frame) with fn := g, kind := .deferred } : Frame).atR a' todo with mode := .returning } : Frame).going P w' (.returned u) := ⟨rfl, hda, gn, hgf, q1⟩
              have caller : ∃ m, cs' = { ({ fr with defers := dl } : Frame) with mode := m } :: cs ∧ PRel μ' (settleA q' pn) (settle m) := by
                have keep : PRel μ' pn (settle fr.mode) := by
                  have hp' := hp.mono s5.le
                  cases pn with
                  | none => have : fr.mode = .returning := hp'; rw [this]; rfl
                  | some v => obtain ⟨u, h1, h2⟩ := hp'; rw [h1]; exact ⟨u, rfl, h2⟩
                cases q' with
                | none => exact ⟨fr.mode, s7.1, keep⟩
                | act v => exact ⟨fr.mode, s7.1, keep⟩
                | done v =>
                  obtain ⟨_, c, rest, u, e1, e2, e3, e4⟩ := s7
                  cases e1
                  exact ⟨_, e4, rfl⟩
              obtain ⟨m, rfl, hpm⟩ := caller
              have h3 := step_going_returned (P := P) (c := { ({ fr with defers := dl } : Frame) with mode := m }) (cs := cs) rfl hgo
              obtain ⟨e2, w2, fr2, r1, r2, r3, r4⟩ := evDefers_ok hc hdr hall k (settleA q' pn) ds H' μ' w' { fr with defers := dl, mode := settle m } cs hgd s4 (hg.mono s5.le) (hr.mono s5.le) hf hk (h2.mono s5.le) hpm
              exact ⟨e2, w2, fr2, Ends.trans hh s4 s5 r1, Steps.head hs0 (Steps.trans hret (Steps.head h3 r2)), r3, r4⟩
            cases d' with
            | cons x xs => cases e <;> cases hgood
            | nil =>
              cases e with
              | nrm => exact main (.inl rfl) rfl hgood
              | ret => exact main (.inr rfl) rfl hgood
              | exit id => cases hgood
              | goto l => cases hgood
              | pan v => cases hgood

theorem comes_of_steps {P : Program} {m m' : Machine} {e : Ending} (h : Steps P m m') (he : e ≠ .outgrown) : Comes P m m' e := by
  cases e with
  | outgrown => exact absurd rfl he
  | _ => exact h

theorem leaveA_ok {call : CallT → List AV → AHeap → FRes} (hc : CallOK P call) (hdr : ∀ need nt, DrawSpec P need nt call) (hall : OKProg P) {f : FuncId} {fn : Func} {c : Code} (hf : P.funcs[f]? = some fn) (hb : fn.body = some c)
    {args : List AV} {vs : List Value} {H : AHeap} {μ : Mu} {w : World} (hv : VRels μ args vs) (hh : HRel μ H w) (hg : GRel P μ) (hgood : (leaveA P call fn (evBody P call fn args .none H)).good = true) :
    Calls P f ⟨vs⟩ w (Ends μ H w (leaveA P call fn (evBody P call fn args .none H))) := by
  intro cs
  obtain ⟨ok1, ok2⟩ := hall f fn c hf hb
  have hq : QRel μ .normal cs .none cs := ⟨rfl, fun fr hk => by simp [tryRecover, hk]⟩
  have hbd := body_ok (P := P) hc hdr hf (kind := .normal) hb ok1 hv hh hg hq
  generalize hx : evBody P call fn args .none H = x at hgood hbd ⊢
  cases x with
  | fail s => cases hgood
  | ok e r d q H' =>
    obtain ⟨μ', w', a', cs', s1, s2, s3, s4, s5, s6, s7⟩ := hbd
    have hcs : cs' = cs := by
      cases q with
      | none => exact s7.1
      | act v => exact s7.1
      | done v => exact absurd s7.1 (by intro h; cases h)
    subst hcs
    have main : ∀ (pn : Option AV) (fr : Frame), fr.fn = f → fr.tmps = a'.tmps → fr.defers = a'.defers → fr.kind = .normal → PRel μ' pn fr.mode → Steps P (lone (Frame.enter P f ⟨vs⟩ .normal) cs' w) (lone fr cs' w') →
        (evDefers P call (needFn fn) fn r 100 pn d H').good = true → ∃ e w2 fr2, Ends μ H w (evDefers P call (needFn fn) fn r 100 pn d H') e w2 ∧ Comes P (lone (Frame.enter P f ⟨vs⟩ .normal) cs' w) (lone fr2 cs' w2) e ∧ fr2.fn = f ∧ fr2.leaving P w2 e := by
      intro pn fr h1 h2 h3 h4 h5 h6 hgd
      subst h1
      obtain ⟨e2, w2, fr2, r1, r2, r3, r4⟩ := evDefers_ok hc hdr hall 100 pn d H' μ' w' fr cs' hgd s4 (hg.mono s5.le) (by rw [h2]; exact s2) hf h4 (by rw [h3]; exact s6) h5
      have r1' := Ends.trans hh s4 s5 r1
      exact ⟨e2, w2, fr2, r1', comes_of_steps (h6.trans r2) (fun e => ends_not_outgrown hgd _ (e ▸ r1')), r3, r4⟩
    cases e with
    | nrm => exact main none { ({ (default : Frame) with fn := f, kind := .normal } : Frame).atR a' [] with mode := .returning } rfl rfl rfl rfl rfl (Steps.trans s1 (.one (stepR_end rfl))) hgood
    | ret => obtain ⟨kk, hkk⟩ := s1; exact main none { ({ (default : Frame) with fn := f, kind := .normal } : Frame).atR a' (.code .ret :: kk) with mode := .returning } rfl rfl rfl rfl rfl (Steps.trans hkk (.one (stepR_ret rfl))) hgood
    | pan v => obtain ⟨kk, u, h1, h2⟩ := s1; exact main (some v) _ rfl rfl rfl rfl ⟨u, rfl, h1.1⟩ h2 hgood
    | exit id => cases hgood
    | goto l => cases hgood
end
end AEv

/-
  THE ABSTRACT EVALUATOR: rounds; calls joined.
-/
namespace AEv
open Go

section
variable {P : Program}

theorem zipRegs_rel {need : Nat} {μ : Mu} : ∀ (ps : List Nat) (args : List AV) (vs : List Value) (r r0 : Tr) (tm : Array Value), (∀ t ∈ ps, t < tm.size) → RegsRel need μ r tm → VRels μ args vs → zipRegs ps args r = some r0 →
    RegsRel need μ r0 ((ps.zip vs).foldl (fun tm (p : Nat × Value) => tm.setIfInBounds p.1 p.2) tm) ∧ ((ps.zip vs).foldl (fun tm (p : Nat × Value) => tm.setIfInBounds p.1 p.2) tm).size = tm.size ∧ ps.length = vs.length
  | [], [], vs, r, r0, tm, hp, hr, hv, h => by cases hv; cases h; exact ⟨hr, rfl, rfl⟩
  | t :: ts, v :: args, vs, r, r0, tm, hp, hr, hv, h => by
    obtain ⟨u, us, rfl, h1, h2⟩ := hv
    simp only [zipRegs] at h
    have hset : RegsRel need μ (r.set (pth t) v) (tm.setIfInBounds t u) := fun s hs => by
      rw [Tr.get_set, getD_set (hp t (by simp))]
      by_cases e : s = t
      · rw [if_pos e, if_pos e]; exact h1
      · rw [if_neg e, if_neg e]; exact hr s hs
    obtain ⟨q1, q2, q3⟩ := zipRegs_rel ts args us _ r0 (tm.setIfInBounds t u) (fun s hs => by simp; exact hp s (by simp [hs])) hset h2 h
    exact ⟨q1, by rw [List.zip_cons_cons, List.foldl_cons]; rw [q2]; simp, by simp [q3]⟩
  | [], _ :: _, vs, r, r0, tm, hp, hr, hv, h => by cases h
  | _ :: _, [], vs, r, r0, tm, hp, hr, hv, h => by cases h

theorem getLoop_run {μ : Mu} {H : AHeap} {w : World} (hh : HRel μ H w) {l : Nat} {i : Img} (hl : μ l = some i) {st : LoopState} {pend : Option Code} {nd : Nat} {rg : Tr} {ps : List Nat} {as bd : Code} {df : Nat} (hg : H.get l = some (.loop st pend nd rg ps as bd df)) :
    ∃ tm dj fn, μ df = some dj ∧ (Instr.getLoop i.blk).run P w = .ok { state := st, pending := pend, fn := fn, tmps := tm, params := ⟨ps⟩, assign := as, body := bd, defers := dj.blk } w ∧ RegsRel nd μ rg tm ∧ okCode tm.size as = true ∧ okCode tm.size bd = true ∧ (∀ t ∈ ps, t < tm.size) ∧
      ∀ st' pend', ∃ w', (setObj i.blk (.loop { state := st', pending := pend', fn := fn, tmps := tm, params := ⟨ps⟩, assign := as, body := bd, defers := dj.blk })).run P w = .ok () w' ∧
        HRel μ (H.set l (some (.loop st' pend' nd rg ps as bd df))) w' ∧ Adv μ H w μ (H.set l (some (.loop st' pend' nd rg ps as bd df))) w' := by
  obtain ⟨tm, dj, fn, e1, e2, e3, e4, e5, e6⟩ := hh.rel _ _ i hg hl
  have hlt := (hh.lt _ _ hl).2
  have hgo : (getObj i.blk).run P w = .ok (.loop { state := st, pending := pend, fn := fn, tmps := tm, params := ⟨ps⟩, assign := as, body := bd, defers := dj.blk }) w := by simp [getObj, Sem.run, e2]
  refine ⟨tm, dj, fn, e1, ?_, e3, e4, e5, e6, fun st' pend' => ?_⟩
  · simp only [Instr.getLoop, Sem.run_bind, hgo, Result.andThen_ok, Sem.run_pure]
  · obtain ⟨r1, r2⟩ := hh.update (w' := { w with heap := w.heap.setIfInBounds i.blk (.loop { state := st', pending := pend', fn := fn, tmps := tm, params := ⟨ps⟩, assign := as, body := bd, defers := dj.blk }) }) (o' := .loop st' pend' nd rg ps as bd df) hg rfl hl (by simp) (fun r hr => by simp [Array.getElem?_setIfInBounds]; intro e; exact absurd e.symm hr) rfl rfl rfl
      ⟨tm, dj, fn, e1, by simp [hlt], e3, e4, e5, e6⟩
    exact ⟨_, by simp [setObj, Sem.run, e2], r1, r2⟩

theorem step_pan_round {b : Frame} {a : Act} {kk : List Item} {c : Frame} {cs : List Frame} {w : World} {chain : List PanicEntry} (hd : a.defers = []) (hn : NotCall kk) :
    step P (lone { b.atR a kk with mode := .panicking chain } (c :: cs) w) = .next (lone (c.raise chain) cs w) := by
  have hcat : ({ b.atR a kk with mode := .panicking chain } : Frame).catches P = false := by
    unfold Frame.catches
    cases hf : P.funcs[b.fn]? with
    | some fn => simp [Frame.atR, hf]
    | none =>
      cases kk with
      | nil => simp [Frame.atR, hf]
      | cons x t => cases x <;> first | exact hn.elim | simp [Frame.atR, hf]
  refine step_lone_go ?_
  have hcat' := hcat
  simp only [Frame.atR, hd] at hcat' ⊢
  simp [stepG, unwind, hcat']

theorem roundEnd_ok {μ : Mu} {H : AHeap} {w : World} {l : Nat} {i : Img} (hl : μ l = some i) {b : Frame} (hb : b.roundOf = some i.blk) (hk : b.kind = .normal) {need nt : Nat} {c : Frame} {cs : List Frame} {m0 : Machine} {x : CRes} (hx : CAll P need nt μ H w b [] (c :: cs) m0 x) (hq0 : ∀ fr : Frame, fr.kind = b.kind → tryRecover fr (c :: cs) = none) (hgood : (roundEnd l x).good = true) (hh : HRel μ H w) :
    Lands P m0 c cs (Ends μ H w (roundEnd l x)) := by
  cases x with
  | fail s => cases hgood
  | ok e r d q H' =>
    obtain ⟨μ', w', a', cs', s1, s2, s3, s4, s5, s6, s7⟩ := hx
    have hcs : cs' = c :: cs := by
      cases q with
      | none => exact s7.1
      | act v => exact s7.1
      | done v => exact absurd (hk.symm.trans s7.1) (by intro h; cases h)
    subst hcs
    cases d with
    | cons y ys => cases hgood
    | nil =>
      have hda : a'.defers = [] := s6
      simp only [roundEnd] at hgood ⊢
      cases hg : H'.get l with
      | none => rw [hg] at hgood; cases hgood
      | some o =>
        rw [hg] at hgood
        cases o <;> try (cases hgood; done)
        case loop st pend nd rg ps as bd df =>
          cases st <;> try (cases hgood; done)
          simp only at hgood ⊢
          obtain ⟨tm, dj, fn, g1, g2, _, _, _, _, g3⟩ := getLoop_run (P := P) s4 (s5.le _ _ hl) hg
          have fin : ∀ jump : Option Code, ∃ w2, (Instr.endRound i.blk jump).run P w' = .ok (.bool jump.isNone) w2 ∧ HRel μ' (H'.set l (some (.loop (if jump.isNone then .ready else .done) jump nd rg ps as bd df))) w2 ∧ Adv μ' H' w' μ' (H'.set l (some (.loop (if jump.isNone then .ready else .done) jump nd rg ps as bd df))) w2 := fun jump => by
            obtain ⟨w2, q1, q2, q3⟩ := g3 (if jump.isNone then .ready else .done) jump
            refine ⟨w2, ?_, q2, q3⟩
            simp only [Instr.endRound, Sem.run_bind, g2, Result.andThen_ok, q1, Sem.run_pure]
          cases e with
          | nrm =>
            obtain ⟨w2, q1, q2, q3⟩ := fin none
            exact ⟨.returned (.bool true), w2, ⟨μ', _, rfl, rfl, q2, Adv.trans hh s4 s5 q3⟩, Steps.trans s1 (.one (stepR_round_end hb hk q1))⟩
          | ret =>
            obtain ⟨kk, s1⟩ := s1
            obtain ⟨w2, q1, q2, q3⟩ := fin (some .ret)
            exact ⟨.returned (.bool false), w2, ⟨μ', _, rfl, rfl, q2, Adv.trans hh s4 s5 q3⟩, Steps.trans s1 (.one (stepR_round_ret hb hk q1))⟩
          | exit id =>
            obtain ⟨kk, hkk, s1⟩ := s1
            obtain ⟨w2, q1, q2, q3⟩ := fin (some (.exit id))
            exact ⟨.returned (.bool false), w2, ⟨μ', _, rfl, rfl, q2, Adv.trans hh s4 s5 q3⟩, Steps.trans s1 (.one (stepR_round_exit hb hk (hkk.trans rfl) q1))⟩
          | pan v =>
            obtain ⟨kk, u, ⟨h1, h2⟩, s1⟩ := s1
            exact ⟨.panicked _, w', ⟨μ', u, rfl, h1, s4, s5⟩, Steps.trans s1 (.one (step_pan_round hda h2))⟩
          | goto t => cases hgood

theorem evRound_ok {call : CallT → List AV → AHeap → FRes} (hc : CallOK P call) (hdr : ∀ need nt, DrawSpec P need nt call) {l : Nat} {args : List AV} {H : AHeap} {μ : Mu} {w : World} {i : Img} {vs : List Value} (hgood : (evRound P call l args H).good = true) (hh : HRel μ H w) (hgl : GRel P μ) (hl : μ l = some i) (hv : VRels μ args vs) :
    YldGoes P i.blk vs w (Ends μ H w (evRound P call l args H)) := by
  unfold evRound at hgood ⊢
  cases hg : H.get l with
  | none => rw [hg] at hgood; cases hgood
  | some o =>
    rw [hg] at hgood
    cases o <;> try (cases hgood; done)
    case loop st pend nd rg ps as bd df =>
      cases st <;> try (cases hgood; done)
      simp only at hgood ⊢
      cases hz : zipRegs ps args rg with
      | none => rw [hz] at hgood; cases hgood
      | some r0 =>
        rw [hz] at hgood
        simp only at hgood ⊢
        obtain ⟨tm, dj, fn, g1, g2, g3, g4, g5, g6, g7⟩ := getLoop_run (P := P) hh hl hg
        obtain ⟨z1, z2, z3⟩ := zipRegs_rel ps args vs rg r0 tm g6 g3 hv hz
        obtain ⟨tm0, htm0⟩ : ∃ tm0, (ps.zip vs).foldl (fun tm (p : Nat × Value) => tm.setIfInBounds p.1 p.2) tm = tm0 := ⟨_, rfl⟩
        rw [htm0] at z1 z2
        refine ⟨fn, tm0, as, bd, ?_, fun c cs => ?_⟩
        · simp only [Instr.yield, Sem.run_bind, g2, Result.andThen_ok]
          rw [if_neg (by simp; omega)]
          simp only [Sem.run_bind, Sem.run_pure, Result.andThen_ok]
          rw [← htm0]
          simp
        · have hround : Frame.round i.blk fn tm0 as bd .normal = ({ (default : Frame) with fn := fn, kind := .normal, roundOf := some i.blk } : Frame).atR { tmps := tm0, defers := [] } [.code as, .beginRound, .code bd] := rfl
          rw [hround]
          have hq : QRel μ .normal (c :: cs) .none (c :: cs) := ⟨rfl, fun fr hk => by simp [tryRecover, hk]⟩
          have hrd : RdRel μ ({ (default : Frame) with fn := fn, kind := .normal, roundOf := some i.blk } : Frame) (some l) := ⟨i, hl, rfl⟩
          have h1 := evCode_ok hc (hdr nd tm.size) (rangeSpec hc) (some l) as g4 { (default : Frame) with fn := fn, kind := .normal, roundOf := some i.blk } r0 [] .none H μ w { tmps := tm0, defers := [] } [.beginRound, .code bd] (c :: cs) (c :: cs) hrd z1 z2 hh hgl rfl hq
          generalize evCode P nd (some l) call as r0 [] .none H = x at h1 hgood ⊢
          cases x with
          | fail s => cases hgood
          | ok e r1 d1 q1 H1 =>
            cases e <;> try (cases hgood; done)
            case nrm =>
              cases d1 <;> try (cases hgood; done)
              case nil =>
                obtain ⟨μ1, w1, a1, cs1, s1, s2, s3, s4, s5, s6, s7⟩ := h1
                have hcs : cs1 = c :: cs := by
                  cases q1 with
                  | none => exact s7.1
                  | act v => exact s7.1
                  | done v => exact absurd s7.1 (by intro h; cases h)
                subst hcs
                simp only [roundGo] at hgood ⊢
                cases hg1 : H1.get l with
                | none => rw [hg1] at hgood; cases hgood
                | some o1 =>
                  rw [hg1] at hgood
                  cases o1 <;> try (cases hgood; done)
                  case loop st2 pend2 nd2 rg2 ps2 as2 bd2 df2 =>
                    cases st2 <;> try (cases hgood; done)
                    simp only at hgood ⊢
                    obtain ⟨tm2, dj2, fn2, k1, k2, k3, k4, k5, k6, k7⟩ := getLoop_run (P := P) s4 (s5.le _ _ hl) hg1
                    obtain ⟨w2, b1, b2, b3⟩ := k7 .busy pend2
                    have hbr : (Instr.beginRound i.blk).run P w1 = .ok () w2 := by
                      simp only [Instr.beginRound, Sem.run_bind, k2, Result.andThen_ok, b1, Sem.run_pure]
                    have hst := stepR_beginRound (P := P) (b := { (default : Frame) with fn := fn, kind := .normal, roundOf := some i.blk }) (a := a1) (k := [.code bd]) (cs := c :: cs) rfl hbr
                    have hq2 : QRel μ1 .normal (c :: cs) .none (c :: cs) := ⟨rfl, fun fr hk => by simp [tryRecover, hk]⟩
                    have hrd2 : RdRel μ1 ({ (default : Frame) with fn := fn, kind := .normal, roundOf := some i.blk } : Frame) (some l) := ⟨i, s5.le _ _ hl, rfl⟩
                    have hda : DRels μ1 [] a1.defers := s6
                    have h2 := evCode_ok hc (hdr nd tm.size) (rangeSpec hc) (some l) bd g5 { (default : Frame) with fn := fn, kind := .normal, roundOf := some i.blk } r1 [] .none _ μ1 w2 a1 [] (c :: cs) (c :: cs) hrd2 s2 s3 b2 (hgl.mono s5.le) hda hq2
                    have h3 := h2.of_steps hh b2 (Steps.trans s1 (.one hst)) (Adv.trans hh s4 s5 b3)
                    exact roundEnd_ok hl rfl rfl h3 (fun fr hk => by simp [tryRecover, hk]) hgood hh
end
end AEv

/-
  THE ABSTRACT EVALUATOR: library functions without a body; all calls joined.
-/
namespace AEv
open Go

section
variable {P : Program}

/-- The library functions without a body that the evaluator knows. -/
def extNames : List String := ["internal/abi.NoEscape", "internal/bytealg.MakeNoZero", "internal/bytealg.IndexByteString", "maps.clone"]
def ExtOK (P : Program) : Prop := ∀ (g : FuncId) (gn : Func), P.funcs[g]? = some gn → gn.body = none → gn.name ∈ extNames → Extern.findNext gn = none

theorem digits_size : ∀ (n t : Nat) (acc : Array Value), (Extern.BytealgMakeNoZero.digits n t acc).size = acc.size + n
  | 0, t, acc => rfl
  | n + 1, t, acc => by rw [Extern.BytealgMakeNoZero.digits, digits_size n]; simp; omega

theorem find_noEscape {fn : Func} (hn : fn.name = "internal/abi.NoEscape") : Extern.find fn = some Extern.AbiNoEscape.same := by
  have h1 : Extern.allGenericRows.lookup "internal/abi.NoEscape" = none := by rfl
  have h2 : Extern.allTypedRows.lookup "internal/abi.NoEscape" = none := by rfl
  have h3 : Extern.allRows.lookup "internal/abi.NoEscape" = some Extern.AbiNoEscape.same := by rfl
  simp [Extern.find, hn, h1, h2, h3]
theorem find_makeNoZero {fn : Func} (hn : fn.name = "internal/bytealg.MakeNoZero") : Extern.find fn = some (Extern.BytealgMakeNoZero.makeNoZero fn.params fn.resultTypes) := by
  have h1 : Extern.allGenericRows.lookup "internal/bytealg.MakeNoZero" = none := by rfl
  have h2 : Extern.allTypedRows.lookup "internal/bytealg.MakeNoZero" = some Extern.BytealgMakeNoZero.makeNoZero := by rfl
  simp [Extern.find, hn, h1, h2]
theorem find_indexByte {fn : Func} (hn : fn.name = "internal/bytealg.IndexByteString") : Extern.find fn = some Extern.BytealgIndexByte.indexByte := by
  have h1 : Extern.allGenericRows.lookup "internal/bytealg.IndexByteString" = none := by rfl
  have h2 : Extern.allTypedRows.lookup "internal/bytealg.IndexByteString" = none := by rfl
  have h3 : Extern.allRows.lookup "internal/bytealg.IndexByteString" = some Extern.BytealgIndexByte.indexByte := by rfl
  simp [Extern.find, hn, h1, h2, h3]
theorem find_clone {fn : Func} (hn : fn.name = "maps.clone") : Extern.find fn = some Extern.MapsClone.clone := by
  have h1 : Extern.allGenericRows.lookup "maps.clone" = none := by rfl
  have h2 : Extern.allTypedRows.lookup "maps.clone" = none := by rfl
  have h3 : Extern.allRows.lookup "maps.clone" = some Extern.MapsClone.clone := by rfl
  simp [Extern.find, hn, h1, h2, h3]

theorem goInt_idx (c : Nat) : ∀ (l : List UInt8) (i : Nat), idxByte c l i = match l.findIdx? (fun b => Nat.beq b.toNat c) with
    | some j => ((i + j : Nat) : Int)
    | none => -1
  | [], i => rfl
  | b :: l, i => by
    rw [idxByte, List.findIdx?_cons]
    cases Nat.beq b.toNat c with
    | true => simp
    | false =>
      simp only [goInt_idx c l (i + 1)]
      cases l.findIdx? (fun b => Nat.beq b.toNat c) with
      | none => rfl
      | some j =>
        simp only [Option.map_some]
        have : ((i + (j + 1) : Nat) : Int) = ((i + 1 + j : Nat) : Int) := by congr 1; omega
        exact this.symm
theorem range_find (b : ByteArray) (p : UInt8 → Bool) : (List.range b.size).find? (fun i => p b[i]!) = b.data.toList.findIdx? p := by
  have hsz : b.data.toList.length = b.size := Array.length_toList
  have hget : ∀ (i : Nat) (hi : i < b.data.toList.length), b[i]! = b.data.toList[i] := fun i hi => by
    have hi' : i < b.size := by omega
    rw [getElem!_pos b i hi']; rfl
  cases hf : b.data.toList.findIdx? p with
  | none =>
    rw [List.find?_eq_none]
    intro i hi
    have hi' : i < b.data.toList.length := by rw [hsz]; simpa using hi
    rw [hget i hi']
    have := List.findIdx?_eq_none_iff.1 hf _ (List.getElem_mem hi')
    rw [this]; exact Bool.false_ne_true
  | some j =>
    obtain ⟨hj, hp, hlt⟩ := List.findIdx?_eq_some_iff_getElem.1 hf
    rw [List.find?_range_eq_some]
    refine ⟨?_, by simp; omega, fun i hi => ?_⟩
    · rw [hget j hj]; exact hp
    · rw [hget i (by omega)]
      have := hlt i hi
      simpa using this
theorem m_mnz {α : Type} (n : Int) (f : Int → α) (g : Array Value → α) : Extern.BytealgMakeNoZero.makeNoZero.match_3 (fun _ => α) #[.int .i64 n] f g = f n := rfl
theorem m_cln {α : Type} (t : TypeId) (r : Nat) (f : TypeId → Nat → α) (e : TypeId → α) (g : Array Value → α) : Extern.MapsClone.clone.match_2 (fun _ => α) #[.iface t (.map (some r))] f e g = f t r := rfl
theorem m_idx {α : Type} (b c : Value) (f : Value → Value → α) (g : Array Value → α) : Extern.BytealgIndexByte.indexByte.match_2 (fun _ => α) #[b, c] f g = f b c := rfl

theorem externA_ok {f : FuncId} {fn : Func} (hf : P.funcs[f]? = some fn) (hb : fn.body = none) (hext : ExtOK P) {args : List AV} {H H' : AHeap} {v : AV} (h : externA P fn fn.name args H = some (v, H'))
    {μ : Mu} {w : World} {vs : List Value} (hh : HRel μ H w) (hv : VRels μ args vs) :
    ∃ u w', (callFunc f ⟨vs⟩).run P w = .ok (.value u) w' ∧ Ends μ H w (.ret v H') (.returned u) w' := by
  have call : ∀ e : Array Value → Sem Value, fn.name ∈ extNames → Extern.find fn = some e → (callFunc f ⟨vs⟩).run P w = (do let v ← e ⟨vs⟩; pure (.value v) : Sem Next).run P w := by
    intro e hm he
    have hn := hext f fn hf hb hm
    have hnum : (fn.name == "runtime.NumGoroutine") = false := by
      simp only [extNames, List.mem_cons, List.mem_nil_iff, or_false] at hm
      rcases hm with h | h | h | h <;> rw [h] <;> decide
    rw [run_callFunc_extern hf hnum (by rw [hb]; rfl) hn he]; simp only [Sem.run_bind]; rfl
  unfold externA at h
  split at h
  · rename_i n
    split at h
    · rename_i hname
      split at h
      · rename_i t ht
        split at h
        · rename_i e hu
          split at h
          · rename_i hle
            cases h
            have hle' : n ≤ 1099511627776 := by simpa using hle
            obtain ⟨u, us, rfl, h1, h2⟩ := hv
            cases h1; cases h2
            have hsz : ∀ (t : TypeId), (Question.appendCap n 0 t).forced = false := fun _ => rfl
            obtain ⟨cap, hcap, hcle⟩ : ∃ cap, (Question.appendCap n 0 e).cut (w.tape w.drawn (Question.appendCap n 0 e)) = cap ∧ n ≤ cap := ⟨_, rfl, by simp [Question.cut]⟩
            obtain ⟨by2, hby⟩ : ∃ x, (Question.extern "internal/bytealg.MakeNoZero.bytes" 0).cut (w.drew.tape w.drew.drawn (Question.extern "internal/bytealg.MakeNoZero.bytes" 0)) = x := ⟨_, rfl⟩
            have hd := digits_size cap by2 #[]
            have hh2 := hh.drew.drew
            obtain ⟨r1, r2⟩ := hh2.alloc (.cells (List.replicate n .bad) e .opn 0 0) (.cells (Extern.BytealgMakeNoZero.digits cap by2 #[]) e) cap
              ⟨_, 0, 0, World.heap_alloc_new _ _, fun j v hj => by
                have hj' : j < n := by
                  rcases Nat.lt_or_ge j n with h | h
                  · exact h
                  · rw [List.getElem?_eq_none (by simpa using h)] at hj; cases hj
                rw [List.getElem?_replicate, if_pos hj'] at hj
                cases hj
                refine ⟨_, Array.getElem?_eq_getElem (by rw [Nat.zero_add, hd]; simp; omega), trivial⟩, by rw [hd]; simp, by simpa using hcle, fun j _ _ h => by omega⟩
            refine ⟨_, _, ?_, upd μ H.n ⟨w.drew.drew.heap.size, 0, cap⟩, _, rfl, ⟨_, upd_same _ _ _, cap, rfl, hcle, by simp⟩, r1, Adv.trans hh hh.drew Adv.drew (Adv.trans hh.drew hh2 Adv.drew r2)⟩
            rw [call _ (by rw [hname]; simp [extNames]) (find_makeNoZero hname)]
            have hneg : ¬ ((Int.ofNat n < 0 || Int.ofNat n > 2 ^ 48) = true) := by
              have h2 : (2 : Int) ^ 48 = 281474976710656 := by rfl
              have h3 : Int.ofNat n = (n : Int) := rfl
              rw [h2, h3]; simp only [Bool.or_eq_true, decide_eq_true_eq]; omega
            have hf1 : (Question.extern "internal/bytealg.MakeNoZero.bytes" 0).forced = false := rfl
            have hto : (Int.ofNat n).toNat = n := rfl
            delta Extern.BytealgMakeNoZero.makeNoZero
            rw [m_mnz]
            simp only [Sem.run_bind, ht, Sem.run_pure, run_und hu, Result.andThen_ok]
            rw [if_neg hneg]
            simp only [Sem.run_bind, run_choose, hto, hsz, hf1, Bool.false_eq_true, if_false, World.drew_eq, hcap, Result.andThen_ok, run_askRoom, hby, Sem.run_pure]
            rfl
          · cases h
        · cases h
      · cases h
    · cases h
  · rename_i x _
    obtain ⟨u, us, rfl, h1, h2⟩ := hv
    cases h2
    split at h
    · rename_i hname
      cases h
      refine ⟨u, w, ?_, μ, u, rfl, h1, hh, Adv.refl _ _ _⟩
      rw [call _ (by rw [hname]; simp [extNames]) (find_noEscape hname)]
      rfl
    · split at h
      · rename_i hname
        split at h
        · rename_i t r
          split at h
          · rename_i es c hg
            cases h
            obtain ⟨y, rfl, i, hi, rfl⟩ := h1
            obtain ⟨ents, e1, e2⟩ := hh.rel _ _ i hg hi
            have hle := hh.le_upd ⟨w.heap.size, 0, 0⟩
            obtain ⟨r1, r2⟩ := hh.alloc (.map es c) (.map ⟨ents⟩ c) 0 ⟨ents, World.heap_alloc_new _ _, e2.mono hle⟩
            refine ⟨_, _, ?_, upd μ H.n ⟨w.heap.size, 0, 0⟩, .iface _ (.map (some w.heap.size)), rfl, ⟨.map (some w.heap.size), rfl, ⟨w.heap.size, 0, 0⟩, upd_same _ _ _, rfl⟩, r1, r2⟩
            rw [call _ (by rw [hname]; simp [extNames]) (find_clone hname)]
            have hgo : (getObj i.blk).run P w = .ok (.map ⟨ents⟩ c) w := by simp [getObj, Sem.run, e1]
            simp only [Sem.run_bind]
            rw [show (⟨[Value.iface _ (Value.map (some i.blk))]⟩ : Array Value) = #[.iface _ (.map (some i.blk))] from rfl]
            delta Extern.MapsClone.clone
            rw [m_cln]
            simp only [Sem.run_bind, hgo, Result.andThen_ok, run_newObj, Sem.run_pure]
            rfl
          · cases h
        · cases h
      · cases h
  · rename_i s c
    split at h
    · rename_i hname
      split at h
      · rename_i hc
        cases h
        have hc' : c < 256 := by simpa using hc
        obtain ⟨u, us, rfl, h1, h2⟩ := hv
        obtain ⟨u2, us2, rfl, h3, h4⟩ := h2
        cases h3; cases h4
        obtain ⟨t, rfl, rfl⟩ := h1
        refine ⟨_, w, ?_, μ, _, rfl, rfl, hh, Adv.refl _ _ _⟩
        rw [call _ (by rw [hname]; simp [extNames]) (find_indexByte hname)]
        have hby : (Int.ofNat c).toNat.toUInt8 = UInt8.ofNat c := rfl
        have heq : ∀ b : UInt8, (b == UInt8.ofNat c) = Nat.beq b.toNat c := fun b => by
          rw [Bool.eq_iff_iff, beq_iff_eq, Nat.beq_eq, ← UInt8.toNat_inj]
          simp [Nat.mod_eq_of_lt hc']
        delta Extern.BytealgIndexByte.indexByte
        rw [m_idx]
        simp only [Sem.run_bind, Extern.Bytes.bytesOf, Extern.Bytes.asByte, Sem.run_pure, Result.andThen_ok, hby, heq]
        have hf := range_find t (fun b => Nat.beq b.toNat c)
        rw [hf, goInt_idx]
        cases t.data.toList.findIdx? (fun b => Nat.beq b.toNat c) with
        | none => rfl
        | some j =>
          simp only [Nat.zero_add]
          rfl
      · cases h
    · cases h
  · cases h

-- calls joined

/-- A function that is known by a contract of its own. -/
def IntrOK (P : Program) (intr : Nat → List AV → AHeap → Option (AV × AHeap)) : Prop :=
  ∀ f args H v H', intr f args H = some (v, H') → ∀ μ w (vs : List Value), HRel μ H w → GRel P μ → VRels μ args vs → FnGoes P f vs w (Ends μ H w (.ret v H'))
theorem intr_none (P : Program) : IntrOK P (fun _ _ _ => none) := fun _ _ _ _ _ h => by cases h

theorem evFn_ok {call : CallT → List AV → AHeap → FRes} (hc : CallOK P call) (hdr : ∀ need nt, DrawSpec P need nt call) (hall : OKProg P) (hext : ExtOK P) {f : Nat} {args : List AV} {H : AHeap} (hgood : (evFn P call f args H).good = true)
    {μ : Mu} {w : World} {vs : List Value} (hh : HRel μ H w) (hg : GRel P μ) (hv : VRels μ args vs) : FnGoes P f vs w (Ends μ H w (evFn P call f args H)) := by
  unfold evFn at hgood ⊢
  cases hf : P.funcs[f]? with
  | none => rw [hf] at hgood; cases hgood
  | some fn =>
    rw [hf] at hgood
    simp only at hgood ⊢
    cases hb : fn.body with
    | none =>
      rw [hb] at hgood
      simp only at hgood ⊢
      cases hx : externA P fn fn.name args H with
      | none => rw [hx] at hgood; cases hgood
      | some p =>
        obtain ⟨v, H'⟩ := p
        obtain ⟨u, w', h1, h2⟩ := externA_ok hf hb hext hx hh hv
        exact .inl ⟨u, w', h1, h2⟩
    | some c =>
      rw [hb] at hgood
      simp only at hgood ⊢
      obtain ⟨ok1, ok2⟩ := hall f fn c hf hb
      exact .inr ⟨callFunc_enter hf hb ok2 _ _, leaveA_ok hc hdr hall hf hb hv hh hg hgood⟩

theorem callN_ok {intr : Nat → List AV → AHeap → Option (AV × AHeap)} (hi : IntrOK P intr) (hdr : ∀ call, CallOK P call → ∀ need nt, DrawSpec P need nt call) (hall : OKProg P) (hext : ExtOK P) : ∀ n, CallOK P (callN P intr n)
  | 0 => ⟨fun f args H hg => (by cases hg), fun l args H hg => (by cases hg)⟩
  | n + 1 => by
    have ih := callN_ok hi hdr hall hext n
    refine ⟨fun f args H hgood μ w vs hh hg hv => ?_, fun l args H hgood μ w i vs hh hg hl hv => ?_⟩
    · simp only [callN] at hgood ⊢
      cases hx : intr f args H with
      | some p =>
        obtain ⟨v, H'⟩ := p
        exact hi f args H v H' hx μ w vs hh hg hv
      | none =>
        rw [hx] at hgood
        exact evFn_ok ih (hdr _ ih) hall hext hgood hh hg hv
    · simp only [callN] at hgood ⊢
      exact evRound_ok ih (hdr _ ih) hgood hh hg hl hv
end
end AEv

/-
  THE ABSTRACT EVALUATOR: regions whose order is drawn: the orders; what an operation looks at; a run in the text's order, step by step.
-/
namespace AEv
open Go

-- the orders

/-- An order from here on: each operation once, behind all that it waits for; and none is left out. -/
def OrdFrom (ops : Array Oper) (S : List Nat) : List Nat → Prop
  | [] => ∀ i, i < ops.size → i ∈ S
  | i :: rest => i < ops.size ∧ i ∉ S ∧ (∀ o, ops[i]? = some o → ∀ e ∈ o.after, Region.binds .any e = true → e.on ∈ S) ∧ OrdFrom ops (i :: S) rest

theorem filter_lt {p q : Nat → Bool} (hpq : ∀ x, q x = true → p x = true) : ∀ (l : List Nat) {i : Nat}, i ∈ l → p i = true → q i = false → (l.filter q).length < (l.filter p).length
  | [], i, h, _, _ => by cases h
  | a :: l, i, h, hp, hq => by
    have hle : ∀ l : List Nat, (l.filter q).length ≤ (l.filter p).length := fun l => by
      induction l with
      | nil => simp
      | cons b l ih =>
        simp only [List.filter_cons]
        cases hb : q b with
        | true => simp [hpq b hb]; exact ih
        | false => cases p b <;> simp <;> omega
    rcases List.mem_cons.1 h with rfl | h
    · have := hle l
      simp only [List.filter_cons, hp, hq, if_true, Bool.false_eq_true, if_false, List.length_cons]; omega
    · have ih := filter_lt hpq l h hp hq
      simp only [List.filter_cons]
      cases hb : q a with
      | true => simp [hpq a hb]; exact ih
      | false => cases p a <;> simp <;> omega

theorem all_listed {ops : Array Oper} (hback : ∀ o i, ops[i]? = some o → edgesBack o i = true) {listed : Array Bool} (hsz : listed.size = ops.size) (hr : Region.ready .any ops listed = []) : ∀ i, i < ops.size → listed.getD i true = true := by
  intro i
  induction i using Nat.strongRecOn with
  | ind i ih =>
    intro hi
    cases hl : listed.getD i true with
    | true => rfl
    | false =>
      have ho : ops[i]? = some ops[i] := Array.getElem?_eq_getElem hi
      have : i ∈ Region.ready .any ops listed := mem_ready.2 ⟨hl, ops[i], ho, fun e he hb => by
        have := hback _ _ ho
        unfold edgesBack at this
        rw [List.all_eq_true] at this
        have h2 := this e (by simpa using he)
        simp only [hb, Bool.not_true, Bool.false_or, Nat.blt_eq] at h2
        have h3 := ih e.on h2 (by omega)
        have hlt : e.on < listed.size := by omega
        simp [hlt] at h3 ⊢
        exact h3⟩
      rw [hr] at this; cases this

theorem ordFrom_go {ops : Array Oper} (hback : ∀ o i, ops[i]? = some o → edgesBack o i = true) : ∀ (fuel t : Nat) (listed : Array Bool) (S : List Nat), listed.size = ops.size → (∀ i, i < ops.size → (listed.getD i true = true ↔ i ∈ S)) →
    ((List.range ops.size).filter fun i => !listed.getD i true).length ≤ fuel → OrdFrom ops S (Region.linearise.go .any ops fuel t listed [])
  | 0, t, listed, S, hsz, hS, hf => by
    simp only [Region.linearise.go, List.reverse_nil, OrdFrom]
    intro i hi
    rw [← hS i hi]
    have h0 : ((List.range ops.size).filter fun i => !listed.getD i true) = [] := List.length_eq_zero_iff.1 (Nat.le_zero.1 hf)
    rw [List.filter_eq_nil_iff] at h0
    have := h0 i (List.mem_range.2 hi)
    simpa using this
  | fuel + 1, t, listed, S, hsz, hS, hf => by
    simp only [Region.linearise.go]
    change OrdFrom ops S (match (Region.ready .any ops listed)[t % (Region.ready .any ops listed).length]? with
      | some i => Region.linearise.go .any ops fuel (t / (Region.ready .any ops listed).length) (listed.setIfInBounds i true) [i]
      | none => [].reverse)
    cases hi : (Region.ready .any ops listed)[t % (Region.ready .any ops listed).length]? with
    | none =>
      have hnil : Region.ready .any ops listed = [] := by
        cases hr : Region.ready .any ops listed with
        | nil => rfl
        | cons x xs =>
          rw [hr] at hi
          have hlt : t % (x :: xs).length < (x :: xs).length := Nat.mod_lt _ (by simp)
          rw [List.getElem?_eq_getElem hlt] at hi; cases hi
      simp only [List.reverse_nil, OrdFrom]
      exact fun i h => (hS i h).1 (all_listed hback hsz hnil i h)
    | some i =>
      simp only []
      rw [linearise_go_acc, List.reverse_singleton, List.singleton_append]
      obtain ⟨h1, o, h2, h3⟩ := mem_ready.1 (List.mem_of_getElem? hi)
      have hlt : i < ops.size := (Array.getElem?_eq_some_iff.1 h2).1
      have hlt' : i < listed.size := by omega
      have hset : ∀ j d, (listed.setIfInBounds i true).getD j d = if j = i then true else listed.getD j d := fun j d => by
        simp only [Array.getD_eq_getD_getElem?, Array.getElem?_setIfInBounds]
        by_cases e : i = j
        · subst e; simp [hlt']
        · rw [if_neg e, if_neg (fun h => e h.symm)]
      refine ⟨hlt, fun h => ?_, fun o' ho' e he hb => ?_, ordFrom_go hback fuel _ _ _ (by simpa using hsz) (fun j hj => ?_) ?_⟩
      · have := (hS i hlt).2 h
        rw [h1] at this; cases this
      · rw [h2] at ho'; cases ho'
        have h4 := h3 e he hb
        have hon : e.on < listed.size := by
          rcases Nat.lt_or_ge e.on listed.size with h | h
          · exact h
          · simp [Array.getElem?_eq_none h] at h4
        rw [← hS e.on (by omega)]
        simp [hon] at h4 ⊢
        exact h4
      · rw [hset, List.mem_cons]
        by_cases e : j = i
        · simp [e]
        · rw [if_neg e, hS j hj]; simp [e]
      · have hlt2 : ((List.range ops.size).filter fun j => !(listed.setIfInBounds i true).getD j true).length < ((List.range ops.size).filter fun j => !listed.getD j true).length :=
          filter_lt (fun x hx => by
            rw [hset] at hx
            by_cases e : x = i
            · rw [if_pos e] at hx; cases hx
            · rw [if_neg e] at hx; exact hx) _ (List.mem_range.2 hlt) (by rw [h1]; rfl) (by rw [hset, if_pos rfl]; rfl)
        omega

theorem ord_all {ops : Array Oper} (hback : ∀ o i, ops[i]? = some o → edgesBack o i = true) (t : Nat) : OrdFrom ops [] (Region.schedule true ops t) := by
  simp only [Region.schedule, Bool.true_or, if_true, Region.linearise]
  refine ordFrom_go hback ops.size t _ [] (by simp) (fun i hi => by simp [hi]) ?_
  refine Nat.le_trans (List.length_filter_le _ _) (by simp)

-- what an operation looks at

section
variable {P : Program} {g g' : Operand → AV}

theorem opt_congr {o : Option Operand} (h : ∀ x ∈ o.toArray, g x = g' x) : o.map g = o.map g' := by
  cases o with
  | none => rfl
  | some x => simp [h x (by simp)]

theorem evOp_congr (o : Oper) (H : AHeap) (h : ∀ x ∈ o.op.operands, g x = g' x) : evOp P o g H = evOp P o g' H := by
  obtain ⟨dst, op, type, pos, after, guard⟩ := o
  have pairs : ∀ ps : Array (Nat × Operand), (∀ x ∈ ps.map (·.2), g x = g' x) → (ps.toList.map fun p => (p.1, g p.2)) = (ps.toList.map fun p => (p.1, g' p.2)) := fun ps hp =>
    List.map_congr_left fun p hm => by rw [hp p.2 (Array.mem_map.2 ⟨p, by simpa using hm, rfl⟩)]
  cases op <;> simp only [Op.operands] at h <;> unfold evOp
  case build t ps => simp only [pairs ps fun x hx => h x (by simpa using hx)]
  case buildSlice t n ps => simp only [pairs ps fun x hx => h x (by simpa using hx)]
  case makeFunc fn first captured =>
    simp only [List.map_congr_left (l := first.toList) fun x hx => h x (by simp at hx; simp [hx]), List.map_congr_left (l := captured.toList) fun x hx => h x (by simp at hx; simp [hx])]
  case call c =>
    have ha : c.args.toList.map g = c.args.toList.map g' := List.map_congr_left fun x hx => h x (by simp at hx; simp [Call.operands, hx])
    simp only [ha]
    cases hc : c.callee with
    | value f => have hf : g f = g' f := h f (by simp [Call.operands, hc]); simp only [hf]
    | invoke r m => have hr : g r = g' r := h r (by simp [Call.operands, hc]); simp only [hr]
    | builtin b => rfl
  case defer c =>
    have ha : c.args.toList.map g = c.args.toList.map g' := List.map_congr_left fun x hx => h x (by simp at hx; simp [Call.operands, hx])
    simp only [ha]
    cases hc : c.callee with
    | value f => have hf : g f = g' f := h f (by simp [Call.operands, hc]); simp only [hf]
    | invoke r m => rfl
    | builtin b => rfl
  case makeMap t r => cases r <;> simp_all
  case slice t x lo hi mx =>
    have e1 : lo.map g = lo.map g' := opt_congr fun y hy => h y (by simp at hy; simp [hy])
    have e2 : hi.map g = hi.map g' := opt_congr fun y hy => h y (by simp at hy; simp [hy])
    have e3 : mx.map g = mx.map g' := opt_congr fun y hy => h y (by simp at hy; simp [hy])
    have e4 : g x = g' x := h x (by simp)
    have e5 : ∀ o : Option Operand, (o.map fun o => kindName (g o)) = (o.map g).map kindName := fun o => by cases o <;> rfl
    have e6 : ∀ o : Option Operand, (o.map fun o => kindName (g' o)) = (o.map g').map kindName := fun o => by cases o <;> rfl
    simp only [e1, e2, e3, e4, e5, e6]
  all_goals (first | rfl | (simp_all; done))

theorem allocA_congr (o : Op) (b : Nat) (h : ∀ x ∈ o.operands, g x = g' x) : allocA P o g b = allocA P o g' b := by
  have pairs : ∀ ps : Array (Nat × Operand), (∀ x ∈ ps.map (·.2), g x = g' x) → (ps.toList.map fun p => (p.1, g p.2)) = (ps.toList.map fun p => (p.1, g' p.2)) := fun ps hp =>
    List.map_congr_left fun p hm => by rw [hp p.2 (Array.mem_map.2 ⟨p, by simpa using hm, rfl⟩)]
  cases o <;> simp only [Op.operands] at h <;> unfold allocA
  case buildSlice t n ps => simp only [pairs ps fun x hx => h x (by simpa using hx)]
  case makeMap t r => cases r <;> rfl
  all_goals (first | rfl | (simp_all; done))

theorem pure_keeps {o : Oper} {H H' : AHeap} {v : AV} (hk : kindOf P o.op = .pure) (h : evOp P o g H = .val v H') : H' = H := by
  have ofv : ∀ {w : String} {x : Option AV}, ofVal H w x = .val v H' → H' = H := fun {w x} e => by
    cases x with
    | none => cases e
    | some y => cases e; rfl
  obtain ⟨dst, op, type, pos, after, guard⟩ := o
  cases op <;> simp only [kindOf] at hk <;> (try (cases hk; done)) <;> unfold evOp at h <;> simp only at h
  case move => cases h; rfl
  case assign => cases h; rfl
  case pick =>
    split at h
    · cases h; rfl
    · cases h; rfl
    · cases h
  case build =>
    repeat' (first | contradiction | (cases h; rfl) | (cases h; done) | split at h)
  case load =>
    repeat' (first | contradiction | (cases h; rfl) | (cases h; done) | exact ofv h | split at h)
  case nilCheck => repeat' (first | contradiction | (cases h; rfl) | (cases h; done) | exact ofv h | split at h)
  case binOp => exact ofv h
  case unOp => repeat' (first | contradiction | (cases h; rfl) | (cases h; done) | exact ofv h | split at h)
  case convert s d x =>
    have hne : ∀ e, P.underlying d ≠ some (.slice e) := fun e he => by rw [he] at hk; cases hk
    unfold evConvert at h
    repeat' (first | exact absurd (by assumption) (hne _) | (cases h; rfl) | (cases h; done) | split at h)
  case makeInterface => repeat' (first | contradiction | (cases h; rfl) | (cases h; done) | exact ofv h | split at h)
  case makeFunc => repeat' (first | contradiction | (cases h; rfl) | (cases h; done) | exact ofv h | split at h)
  case makeMap r => cases r <;> cases hk
  case slice => exact ofv h
  case fieldAddr => repeat' (first | contradiction | (cases h; rfl) | (cases h; done) | exact ofv h | split at h)
  case field => repeat' (first | contradiction | (cases h; rfl) | (cases h; done) | exact ofv h | split at h)
  case indexAddr => repeat' (first | contradiction | (cases h; rfl) | (cases h; done) | exact ofv h | split at h)
  case index => repeat' (first | contradiction | (cases h; rfl) | (cases h; done) | exact ofv h | split at h)
  case lookup => exact ofv h
  case typeAssert => repeat' (first | contradiction | (cases h; rfl) | (cases h; done) | exact ofv h | split at h)
  case extract => repeat' (first | contradiction | (cases h; rfl) | (cases h; done) | exact ofv h | split at h)
  case call c =>
    cases hc : c.callee with
    | value f => rw [hc] at hk; cases hk
    | invoke r m => rw [hc] at hk; cases hk
    | builtin b =>
      rw [hc] at hk h
      simp only at h
      cases b <;> simp only at hk <;> (try (cases hk; done)) <;> unfold evBuiltin at h <;> simp only at h
      all_goals repeat' (first | contradiction | (cases h; rfl) | (cases h; done) | exact ofv h | split at h)
end
end AEv

/-
  THE ABSTRACT EVALUATOR: regions whose order is drawn: the plan, and the run in the text's order, step by step.
-/
namespace AEv
open Go

-- the plan

def ReadyIn (ops : Array Oper) (S : List Nat) (j : Nat) : Prop := ∀ o, ops[j]? = some o → ∀ e ∈ o.after, Region.binds .any e = true → e.on ∈ S
def Closed (ops : Array Oper) (S : List Nat) : Prop := ∀ j ∈ S, ReadyIn ops S j
def Sound (ops : Array Oper) (j m : Nat) : Prop := ∀ S, Closed ops S → ReadyIn ops S j → ∀ b, Nat.testBit m b = true → b ∈ S
def MasksOK (ops : Array Oper) (n : Nat) (masks : List Nat) : Prop := ∀ j, j < n → ∃ m, nth (n - 1 - j) masks = some m ∧ Sound ops j m

theorem one_shl_bit (a b : Nat) (h : Nat.testBit (1 <<< a) b = true) : b = a := by
  rw [Nat.shiftLeft_eq, Nat.one_mul, Nat.testBit_two_pow] at h
  exact (of_decide_eq_true h).symm
theorem maskOf_bit {masks : List Nat} {n : Nat} : ∀ (l : List Edge) (s b : Nat), Nat.testBit (l.foldl (fun s e => match Region.binds .any e with
    | true => s ||| 1 <<< e.on ||| (nth (n - 1 - e.on) masks).getD 0
    | false => s) s) b = true → Nat.testBit s b = true ∨ ∃ e ∈ l, Region.binds .any e = true ∧ (b = e.on ∨ Nat.testBit ((nth (n - 1 - e.on) masks).getD 0) b = true)
  | [], s, b, h => .inl h
  | e :: l, s, b, h => by
    rw [List.foldl_cons] at h
    rcases maskOf_bit l _ b h with h | ⟨e', h1, h2⟩
    · cases hb : Region.binds .any e with
      | false => rw [hb] at h; exact .inl h
      | true =>
        rw [hb] at h
        simp only [Nat.testBit_or, Bool.or_eq_true] at h
        rcases h with (h | h) | h
        · exact .inl h
        · exact .inr ⟨e, by simp, hb, .inl (one_shl_bit _ _ h)⟩
        · exact .inr ⟨e, by simp, hb, .inr h⟩
    · exact .inr ⟨e', by simp [h1], h2⟩
theorem maskOf_sound {ops : Array Oper} {masks : List Nat} {n : Nat} {o : Oper} (ho : ops[n]? = some o) (hb : edgesBack o n = true) (hm : MasksOK ops n masks) : Sound ops n (maskOf masks n o) := by
  intro S hS hr b h
  unfold maskOf at h
  rw [← Array.foldl_toList] at h
  rcases maskOf_bit _ _ _ h with h | ⟨e, h1, h2, h3⟩
  · simp at h
  · have he : e ∈ o.after := by simpa using h1
    have hon := hr o ho e he h2
    rcases h3 with rfl | h3
    · exact hon
    · have hlt : e.on < n := by
        unfold edgesBack at hb
        rw [List.all_eq_true] at hb
        have := hb e h1
        simpa [h2] using this
      obtain ⟨m, hm1, hm2⟩ := hm e.on hlt
      rw [hm1] at h3
      exact hm2 S hS (hS _ hon) b h3
theorem MasksOK.cons {ops : Array Oper} {masks : List Nat} {n m : Nat} (h : MasksOK ops n masks) (hs : Sound ops n m) : MasksOK ops (n + 1) (m :: masks) := by
  intro j hj
  by_cases e : j = n
  · subst e; exact ⟨m, by simp [nth], hs⟩
  · obtain ⟨m', h1, h2⟩ := h j (by omega)
    refine ⟨m', ?_, h2⟩
    have : n + 1 - 1 - j = (n - 1 - j) + 1 := by omega
    rw [this]; exact h1

theorem dloc_take : ∀ (l : List Oper) (n : Nat) (loc : List (Nat × Acc)) (k : Nat) (o : Oper), l[k]? = some o → dloc (l.take (k + 1)) n loc = nextLoc o (n + k) (dloc (l.take k) n loc)
  | [], n, loc, k, o, h => by simp at h
  | x :: l, n, loc, 0, o, h => by simp at h; subst h; simp [dloc]
  | x :: l, n, loc, k + 1, o, h => by
    have h' : l[k]? = some o := by simpa using h
    have ih := dloc_take l (n + 1) (nextLoc x n loc) k o h'
    simp only [List.take_succ_cons, dloc]
    rw [ih]
    have : n + 1 + k = n + (k + 1) := by omega
    rw [this]

theorem dplan_get {ops : Array Oper} : ∀ (l : List Oper) (n : Nat) (loc : List (Nat × Acc)) (masks : List Nat), (∀ k, l[k]? = ops[n + k]?) → (∀ s ∈ dplan l n loc masks, edgesBack s.o s.i = true) → MasksOK ops n masks → ∀ (k : Nat) (o : Oper), l[k]? = some o →
    ∃ s, (dplan l n loc masks)[k]? = some s ∧ s.i = n + k ∧ s.o = o ∧ s.loc = dloc (l.take k) n loc ∧ Sound ops (n + k) s.bef
  | [], n, loc, masks, hl, he, hm, k, o, h => by simp at h
  | x :: l, n, loc, masks, hl, he, hm, k, o, h => by
    simp only [dplan] at he ⊢
    have hx : ops[n]? = some x := by have := hl 0; simpa using this.symm
    have hb : edgesBack x n = true := he ⟨n, x, maskOf masks n x, loc⟩ (by simp)
    have hs := maskOf_sound hx hb hm
    cases k with
    | zero =>
      simp at h; subst h
      exact ⟨_, rfl, rfl, rfl, rfl, hs⟩
    | succ k =>
      obtain ⟨s, h1, h2, h3, h4, h5⟩ := dplan_get l (n + 1) (nextLoc x n loc) (maskOf masks n x :: masks) (fun j => by have := hl (j + 1); simp at this; rw [this]; congr 1; omega) (fun s hs => he s (by simp [hs])) (hm.cons hs) k o (by simpa using h)
      exact ⟨s, by simpa using h1, by omega, h3, by simpa [dloc] using h4, by rw [show n + (k + 1) = n + 1 + k by omega]; exact h5⟩
theorem dplan_len : ∀ (l : List Oper) (n : Nat) (loc : List (Nat × Acc)) (masks : List Nat), (dplan l n loc masks).length = l.length
  | [], _, _, _ => rfl
  | x :: l, n, loc, masks => by simp [dplan, dplan_len l]

theorem drawOK_back {ops : Array Oper} : ∀ {l : List DStep}, drawOK ops l = true → ∀ s ∈ l, edgesBack s.o s.i = true
  | [], _, s, h => by cases h
  | x :: l, hd, s, h => by
    simp only [drawOK, Bool.and_eq_true] at hd
    rcases List.mem_cons.1 h with rfl | h
    · exact hd.1.1
    · exact drawOK_back hd.2 s h
theorem apartOK_spec {ops : Array Oper} {s : DStep} : ∀ {l : List DStep}, apartOK ops s l = true → ∀ s' ∈ l, (∃ t, s.o.dst = some t ∧ t ∈ namesOf ops s'.o) ∨ (∃ t, s'.o.dst = some t ∧ t ∈ namesOf ops s.o) → Nat.testBit s'.bef s.i = true
  | [], _, s', h => by cases h
  | x :: l, hd, s', h => by
    simp only [apartOK, Bool.and_eq_true] at hd
    rcases List.mem_cons.1 h with rfl | h
    · intro hn
      have h1 := hd.1
      split at h1
      · exact h1
      · rename_i hc
        exfalso
        rw [Bool.or_eq_false_iff] at hc
        rcases hn with ⟨t, e, hm⟩ | ⟨t, e, hm⟩
        · have := hc.1; rw [e] at this; simp [hm] at this
        · have := hc.2; rw [e] at this; simp [hm] at this
    · exact apartOK_spec hd.2 s' h
theorem drawOK_apart {ops : Array Oper} : ∀ {l : List DStep}, drawOK ops l = true → ∀ (i j : Nat) (s s' : DStep), i < j → l[i]? = some s → l[j]? = some s' → (∃ t, s.o.dst = some t ∧ t ∈ namesOf ops s'.o) ∨ (∃ t, s'.o.dst = some t ∧ t ∈ namesOf ops s.o) → Nat.testBit s'.bef s.i = true
  | [], _, i, j, s, s', _, h, _ => by simp at h
  | x :: l, hd, i, j, s, s', hij, h1, h2 => by
    simp only [drawOK, Bool.and_eq_true] at hd
    cases j with
    | zero => omega
    | succ j =>
      have h2' : l[j]? = some s' := by simpa using h2
      cases i with
      | zero =>
        simp at h1; subst h1
        exact apartOK_spec hd.1.2 s' (List.mem_of_getElem? h2')
      | succ i => exact drawOK_apart hd.2 i j s s' (by omega) (by simpa using h1) h2'

-- the run in the text's order

structure DSt where
  env : List AV
  d : List ADef
  q : Rc
  h : AHeap
  sts : List (Nat × Nat × AHeap)

section
variable {P : Program} {need : Nat} {inR : Bool} {call : CallT → List AV → AHeap → FRes} {ops : Array Oper} {r : Tr} {b0 : Nat}

def gOf (P : Program) (need : Nat) (r : Tr) (s : DStep) (env : List AV) : Operand → AV := fun x => getAcc s.i env r (accOf P need s.loc x)

inductive DTr (P : Program) (need : Nat) (inR : Bool) (call : CallT → List AV → AHeap → FRes) (ops : Array Oper) (r : Tr) (b0 : Nat) (s : DStep) (st : DSt) : DSt → Prop where
  | askip (hk : kindOf P s.o.op = .alloc) (hw : wantedA (dguard P need ops r s.i st.env s) = some false) : DTr P need inR call ops r b0 s st { st with env := .tup [] :: st.env }
  | alloc {v : AV} {ob : AObj} (hk : kindOf P s.o.op = .alloc) (hw : wantedA (dguard P need ops r s.i st.env s) = some true) (ha : allocA P s.o.op (gOf P need r s st.env) (b0 + s.i) = some (v, ob)) :
      DTr P need inR call ops r b0 s st { st with env := v :: st.env, h := st.h.set (b0 + s.i) (some ob) }
  | pure {v : AV} {d' : List ADef} {q' : Rc} {h' : AHeap} (hk : kindOf P s.o.op = .pure) (he : evOne P inR call (dguard P need ops r s.i st.env s) s.o (gOf P need r s st.env) st.d st.q st.h = .ok v d' q' h') :
      DTr P need inR call ops r b0 s st { st with env := v :: st.env }
  | eff {v : AV} {d' : List ADef} {q' : Rc} {h' : AHeap} (hk : kindOf P s.o.op = .eff) (ho : ∀ e m h0 l, st.sts = (e, m, h0) :: l → Nat.testBit s.bef e = true)
      (he : evOne P inR call (dguard P need ops r s.i st.env s) s.o (gOf P need r s st.env) st.d st.q st.h = .ok v d' q' h') : DTr P need inR call ops r b0 s st ⟨v :: st.env, d', q', h', (s.i, s.bef, st.h) :: st.sts⟩

theorem evD_cons {s : DStep} {rest : List DStep} {st : DSt} {x : DRes} (h : evD P need inR call ops r b0 (s :: rest) st.env st.d st.q st.h st.sts = x) (hf : ∀ w, x ≠ .fail w) :
    (∃ st', DTr P need inR call ops r b0 s st st' ∧ evD P need inR call ops r b0 rest st'.env st'.d st'.q st'.h st'.sts = x) ∨
    (kindOf P s.o.op = .eff ∧ (∀ e m h0 l, st.sts = (e, m, h0) :: l → Nat.testBit s.bef e = true) ∧ rest.all (fun s' => Nat.testBit s'.bef s.i) = true ∧
      ∃ v d' q' h', evOne P inR call (dguard P need ops r s.i st.env s) s.o (gOf P need r s st.env) st.d st.q st.h = .pan v d' q' h' ∧ x = .pan v st.env d' q' h' ((s.i, s.bef, st.h) :: st.sts)) := by
  simp only [evD] at h
  split at h
  · rename_i hk
    split at h
    · exact absurd h.symm (hf _)
    · rename_i hw; exact .inl ⟨_, .askip hk hw, h⟩
    · rename_i hw
      split at h
      · rename_i v ob ha; exact .inl ⟨_, .alloc hk hw ha, h⟩
      · exact absurd h.symm (hf _)
  · rename_i hk
    split at h
    · rename_i he; exact .inl ⟨_, .pure hk he, h⟩
    · exact absurd h.symm (hf _)
    · exact absurd h.symm (hf _)
  · rename_i hk
    split at h
    · exact absurd h.symm (hf _)
    · rename_i ho
      have ho' : ∀ e m h0 l, st.sts = (e, m, h0) :: l → Nat.testBit s.bef e = true := fun e m h0 l hs => by rw [hs] at ho; exact ho
      split at h
      · rename_i he; exact .inl ⟨_, .eff hk ho' he, h⟩
      · rename_i he
        split at h
        · rename_i hall; exact .inr ⟨hk, ho', hall, _, _, _, _, he, h.symm⟩
        · exact absurd h.symm (hf _)
      · exact absurd h.symm (hf _)

/-- The states of a run: the step at which it panics, if it does. -/
theorem evD_trace : ∀ (l : List DStep) (st : DSt) (x : DRes), evD P need inR call ops r b0 l st.env st.d st.q st.h st.sts = x → (∀ w, x ≠ .fail w) →
    ∃ (f : Nat → DSt) (N : Nat), f 0 = st ∧ N ≤ l.length ∧ (∀ k s, k < N → l[k]? = some s → DTr P need inR call ops r b0 s (f k) (f (k + 1))) ∧
      ((N = l.length ∧ x = .ok (f N).env (f N).d (f N).q (f N).h (f N).sts) ∨
       (∃ s, l[N]? = some s ∧ kindOf P s.o.op = .eff ∧ (∀ e m h0 l, (f N).sts = (e, m, h0) :: l → Nat.testBit s.bef e = true) ∧ (∀ k s', N < k → l[k]? = some s' → Nat.testBit s'.bef s.i = true) ∧
        ∃ v d' q' h', evOne P inR call (dguard P need ops r s.i (f N).env s) s.o (gOf P need r s (f N).env) (f N).d (f N).q (f N).h = .pan v d' q' h' ∧ x = .pan v (f N).env d' q' h' ((s.i, s.bef, (f N).h) :: (f N).sts)))
  | [], st, x, h, hf => ⟨fun _ => st, 0, rfl, Nat.le_refl _, fun k s hk => by omega, .inl ⟨rfl, h.symm⟩⟩
  | s :: l, st, x, h, hf => by
    rcases evD_cons h hf with ⟨st', h1, h2⟩ | ⟨h1, h2, h3, h4⟩
    · obtain ⟨f, N, g1, g2, g3, g4⟩ := evD_trace l st' x h2 hf
      refine ⟨fun k => match k with | 0 => st | k + 1 => f k, N + 1, rfl, by simpa using g2, fun k s' hk hs => ?_, ?_⟩
      · cases k with
        | zero => simp at hs; subst hs; simp only [Nat.zero_add, g1]; exact h1
        | succ k => exact g3 k s' (by omega) (by simpa using hs)
      · rcases g4 with ⟨e1, e2⟩ | ⟨s2, e1, e2, e3, e4, e5⟩
        · exact .inl ⟨by simp [e1], e2⟩
        · refine .inr ⟨s2, by simpa using e1, e2, e3, fun k s' hk hs => ?_, e5⟩
          cases k with
          | zero => omega
          | succ k => exact e4 k s' (by omega) (by simpa using hs)
    · refine ⟨fun _ => st, 0, rfl, by simp, fun k s hk => by omega, .inr ⟨s, rfl, h1, h2, fun k s' hk hs => ?_, h4⟩⟩
      cases k with
      | zero => omega
      | succ k =>
        rw [List.all_eq_true] at h3
        exact h3 s' (List.mem_of_getElem? (by simpa using hs))

mutual
theorem beq_eq : ∀ (a c : AV), AV.beq a c = true → a = c
  | .bool a, c, h => by
    cases c <;> simp only [AV.beq] at h <;> first | (cases h; done) | (simp at h; subst h; rfl)
  | .int k n, c, h => by
    cases c <;> simp only [AV.beq] at h <;> first | (cases h; done) | (simp [eqI] at h; obtain ⟨rfl, rfl⟩ := h; rfl)
  | .str s, c, h => by
    cases c <;> simp only [AV.beq] at h <;> first | (cases h; done) | (rw [beqBytes_eq] at h; simp at h; subst h; rfl)
  | .nilP, c, h => by cases c <;> simp only [AV.beq] at h <;> first | (cases h; done) | rfl
  | .ptr x y, c, h => by
    cases c <;> simp only [AV.beq] at h <;> first | (cases h; done) | (rw [Bool.and_eq_true, Nat.beq_eq, Nat.beq_eq] at h; obtain ⟨rfl, rfl⟩ := h; rfl)
  | .nilS, c, h => by cases c <;> simp only [AV.beq] at h <;> first | (cases h; done) | rfl
  | .slice x y z cap, c, h => by
    cases c <;> simp only [AV.beq] at h <;> (try (cases h; done))
    rename_i x' y' z' cap'
    simp only [Bool.and_eq_true, Nat.beq_eq] at h
    obtain ⟨⟨⟨rfl, rfl⟩, rfl⟩, h⟩ := h
    cases cap <;> cases cap' <;> simp only [Cap.beq] at h <;> first | (cases h; done) | (rw [Nat.beq_eq] at h; subst h; rfl) | rfl
  | .nilM, c, h => by cases c <;> simp only [AV.beq] at h <;> first | (cases h; done) | rfl
  | .map x, c, h => by
    cases c <;> simp only [AV.beq] at h <;> first | (cases h; done) | (rw [Nat.beq_eq] at h; subst h; rfl)
  | .nilF, c, h => by cases c <;> simp only [AV.beq] at h <;> first | (cases h; done) | rfl
  | .fn x as bs, c, h => by
    cases c <;> simp only [AV.beq] at h <;> (try (cases h; done))
    simp only [Bool.and_eq_true, Nat.beq_eq] at h
    obtain ⟨⟨rfl, h1⟩, h2⟩ := h
    rw [beqs_eq _ _ h1, beqs_eq _ _ h2]
  | .yld x, c, h => by
    cases c <;> simp only [AV.beq] at h <;> first | (cases h; done) | (rw [Nat.beq_eq] at h; subst h; rfl)
  | .nilI, c, h => by cases c <;> simp only [AV.beq] at h <;> first | (cases h; done) | rfl
  | .iface t v, c, h => by
    cases c <;> simp only [AV.beq] at h <;> (try (cases h; done))
    simp only [Bool.and_eq_true, Nat.beq_eq] at h
    obtain ⟨rfl, h1⟩ := h
    rw [beq_eq _ _ h1]
  | .agg cs, c, h => by
    cases c <;> simp only [AV.beq] at h <;> (try (cases h; done))
    rw [beqs_eq _ _ h]
  | .tup cs, c, h => by
    cases c <;> simp only [AV.beq] at h <;> (try (cases h; done))
    rw [beqs_eq _ _ h]
  | .bad, c, h => by cases c <;> simp only [AV.beq] at h <;> cases h
theorem beqs_eq : ∀ (a c : List AV), AV.beqs a c = true → a = c
  | [], [], _ => rfl
  | [], _ :: _, h => by simp [AV.beqs] at h
  | _ :: _, [], h => by simp [AV.beqs] at h
  | x :: a, y :: c, h => by
    simp only [AV.beqs, Bool.and_eq_true] at h
    rw [beq_eq _ _ h.1, beqs_eq _ _ h.2]
end
end
end AEv
