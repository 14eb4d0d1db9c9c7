/-
  THE ABSTRACT EVALUATOR (drawn regions; a run of the evaluator is a run of the program): a deterministic semantics of loaded code, and the proof that its runs are runs of the program in the model, whatever the tape draws. No condition.
-/
import Derived.Test.YtlelojncabdnoaaDoorAec
import Derived.Handed
import Derived.ProofKit
import Derived.Below
import Derived.ChangeSame
import Derived.SliceStrings
import Derived.WideShapes
set_option linter.unusedVariables false
set_option linter.unusedSimpArgs false
/-
  THE ABSTRACT EVALUATOR: regions whose order is drawn: what holds between two operations, in whatever order they come.
-/
namespace AEv
open Go

/-- All that a drawn region's proof is about. -/
structure DD where
  P : Program
  need : Nat
  nt : Nat
  inR : Bool
  call : CallT → List AV → AHeap → FRes
  ops : Array Oper
  r : Tr
  b : Frame
  μ0 : Mu
  H : AHeap
  w0 : World
  cs0 : List Frame
  N : Nat
  f : Nat → DSt

def DD.steps (X : DD) : List DStep := dplan X.ops.toList 0 [] []
def DD.val (X : DD) (j : Nat) : AV := (nth (X.N - 1 - j) (X.f X.N).env).getD .bad

structure DHyp (X : DD) : Prop where
  hc : CallOK X.P X.call
  hin : X.inR = X.b.roundOf.isSome
  hops : ∀ o ∈ X.ops.toList, ∀ t, o.dst = some t → t < X.nt
  hdr : drawOK X.ops X.steps = true
  hN : X.N ≤ X.ops.size
  tr : ∀ k s, k < X.N → X.steps[k]? = some s → DTr X.P X.need X.inR X.call X.ops X.r X.H.n s (X.f k) (X.f (k + 1))
  env0 : (X.f 0).env = []
  sts0 : (X.f 0).sts = []
  looks : ∀ i s, i < X.N → X.steps[i]? = some s → kindOf X.P s.o.op = .pure → ∃ nx, statesOK X.P X.need X.ops X.r X.N (X.f X.N).env s (X.val i) nx (X.f X.N).h (X.f X.N).sts = true ∧ (∀ e, nx = some e → e = X.N ∧ X.N < X.ops.size)
  last : ∀ s, X.steps[X.N]? = some s → kindOf X.P s.o.op = .eff ∧ (∀ e m h0 l, (X.f X.N).sts = (e, m, h0) :: l → Nat.testBit s.bef e = true) ∧ ∀ k s', X.N < k → X.steps[k]? = some s' → Nat.testBit s'.bef s.i = true
  hgl : GRel X.P X.μ0
  hh0 : HRel X.μ0 X.H X.w0

section
variable {X : DD}

theorem DHyp.step_get (hX : DHyp X) {i : Nat} (hi : i < X.ops.size) : ∃ s, X.steps[i]? = some s ∧ s.i = i ∧ X.ops[i]? = some s.o ∧ s.loc = dloc (X.ops.toList.take i) 0 [] ∧ Sound X.ops i s.bef := by
  have ho : X.ops.toList[i]? = some X.ops[i] := by simp [hi]
  obtain ⟨s, h1, h2, h3, h4, h5⟩ := dplan_get (ops := X.ops) X.ops.toList 0 [] [] (fun k => by simp) (drawOK_back hX.hdr) (fun j hj => by omega) i _ ho
  refine ⟨s, h1, by omega, by rw [h3]; exact Array.getElem?_eq_getElem hi, h4, by simpa using h5⟩
theorem DHyp.step_of (hX : DHyp X) {i : Nat} {s : DStep} (h : X.steps[i]? = some s) : i < X.ops.size ∧ s.i = i ∧ X.ops[i]? = some s.o ∧ s.loc = dloc (X.ops.toList.take i) 0 [] ∧ Sound X.ops i s.bef := by
  have hi : i < X.ops.size := by
    have h1 := (List.getElem?_eq_some_iff.1 h).1
    rw [DD.steps, dplan_len] at h1
    simpa using h1
  obtain ⟨s', h1, h2⟩ := hX.step_get hi
  rw [h] at h1; cases h1
  exact ⟨hi, h2⟩
theorem DHyp.apart (hX : DHyp X) {i j : Nat} {s s' : DStep} (hij : i < j) (h1 : X.steps[i]? = some s) (h2 : X.steps[j]? = some s') (h : (∃ t, s.o.dst = some t ∧ t ∈ namesOf X.ops s'.o) ∨ (∃ t, s'.o.dst = some t ∧ t ∈ namesOf X.ops s.o)) : Nat.testBit s'.bef i = true := by
  have := drawOK_apart hX.hdr i j s s' hij h1 h2 h
  rw [(hX.step_of h1).2.1] at this; exact this

theorem DHyp.env_len (hX : DHyp X) : ∀ k, k ≤ X.N → (X.f k).env.length = k
  | 0, _ => by rw [hX.env0]; rfl
  | k + 1, hk => by
    obtain ⟨s, h1, _⟩ := hX.step_get (i := k) (by have := hX.hN; omega)
    have ih := hX.env_len k (by omega)
    have ht := hX.tr k s (by omega) h1
    generalize X.f (k + 1) = st at ht
    cases ht <;> simp [ih]
theorem DHyp.env_app (hX : DHyp X) (k : Nat) : ∀ m, k ≤ m → m ≤ X.N → ∃ l, (X.f m).env = l ++ (X.f k).env
  | 0, h1, h2 => ⟨[], by obtain rfl : k = 0 := by omega
                         rfl⟩
  | m + 1, h1, h2 => by
    by_cases e : k = m + 1
    · exact ⟨[], by rw [e]; rfl⟩
    · obtain ⟨l, hl⟩ := hX.env_app k m (by omega) (by omega)
      obtain ⟨s, hs, _⟩ := hX.step_get (i := m) (by have := hX.hN; omega)
      have ht := hX.tr m s (by omega) hs
      have : ∃ v, (X.f (m + 1)).env = v :: (X.f m).env := by
        generalize X.f (m + 1) = st at ht
        cases ht <;> exact ⟨_, rfl⟩
      obtain ⟨v, hv⟩ := this
      exact ⟨v :: l, by rw [hv, hl]; rfl⟩
theorem nth_app {α : Type} : ∀ (l m : List α) (k : Nat), nth (l.length + k) (l ++ m) = nth k m
  | [], m, k => by simp
  | a :: l, m, k => by
    have : (a :: l).length + k = (l.length + k) + 1 := by simp; omega
    rw [this]; exact nth_app l m k
theorem DHyp.env_nth (hX : DHyp X) {k j : Nat} (hk : k ≤ X.N) (hj : j < k) : nth (k - 1 - j) (X.f k).env = nth (X.N - 1 - j) (X.f X.N).env := by
  obtain ⟨l, hl⟩ := hX.env_app k X.N hk (Nat.le_refl _)
  have h1 := hX.env_len k hk
  have h2 := hX.env_len X.N (Nat.le_refl _)
  rw [hl] at h2 ⊢
  simp only [List.length_append, h1] at h2
  have : X.N - 1 - j = l.length + (k - 1 - j) := by omega
  rw [this, nth_app]
theorem DHyp.val_at (hX : DHyp X) {k : Nat} (hk : k < X.N) {v : AV} (h : (X.f (k + 1)).env = v :: (X.f k).env) : X.val k = v := by
  have h1 := hX.env_nth (k := k + 1) (j := k) hk (Nat.lt_succ_self k)
  unfold DD.val
  rw [← h1, h]
  simp [nth]
theorem DHyp.acc_at (hX : DHyp X) {k : Nat} (hk : k ≤ X.N) {a : Acc} (ha : a.below k) : getAcc k (X.f k).env X.r a = getAcc X.N (X.f X.N).env X.r a := by
  cases a with
  | env j => simp only [getAcc]; rw [hX.env_nth hk ha]
  | reg p => rfl
  | val v => rfl

/-- The last operation ahead of a place that writes a register. -/
theorem dloc_find (l : List Oper) (t : Nat) : ∀ k, k ≤ l.length →
    (∀ a, findLoc t (dloc (l.take k) 0 []) = some a → ∃ j o, j < k ∧ a = .env j ∧ l[j]? = some o ∧ o.dst = some t ∧ ∀ j' o', j < j' → j' < k → l[j']? = some o' → o'.dst ≠ some t) ∧
    (findLoc t (dloc (l.take k) 0 []) = none → ∀ j o, j < k → l[j]? = some o → o.dst ≠ some t)
  | 0, _ => ⟨fun a h => by simp [dloc, findLoc] at h, fun _ j o hj => by omega⟩
  | k + 1, hk => by
    obtain ⟨ih1, ih2⟩ := dloc_find l t k (by omega)
    have ho : l[k]? = some l[k] := List.getElem?_eq_getElem (by omega)
    rw [dloc_take l 0 [] k l[k] ho, Nat.zero_add]
    unfold nextLoc
    cases hd : (l[k]).dst with
    | none =>
      refine ⟨fun a h => ?_, fun h j o hj hjo => ?_⟩
      · obtain ⟨j, o, h1, h2, h3, h4, h5⟩ := ih1 a h
        refine ⟨j, o, by omega, h2, h3, h4, fun j' o' q1 q2 q3 => ?_⟩
        by_cases e : j' = k
        · subst e; rw [ho] at q3; cases q3; rw [hd]; simp
        · exact h5 j' o' q1 (by omega) q3
      · by_cases e : j = k
        · subst e; rw [ho] at hjo; cases hjo; rw [hd]; simp
        · exact ih2 h j o (by omega) hjo
    | some d =>
      simp only [findLoc_cons]
      by_cases e : t = d
      · subst e
        refine ⟨fun a h => ?_, fun h => by simp at h⟩
        simp at h; subst h
        exact ⟨k, _, by omega, rfl, ho, hd, fun j' o' q1 q2 => by omega⟩
      · simp only [e, if_false]
        refine ⟨fun a h => ?_, fun h j o hj hjo => ?_⟩
        · obtain ⟨j, o, h1, h2, h3, h4, h5⟩ := ih1 a h
          refine ⟨j, o, by omega, h2, h3, h4, fun j' o' q1 q2 q3 => ?_⟩
          by_cases e2 : j' = k
          · subst e2; rw [ho] at q3; cases q3; rw [hd]; simp; exact fun e' => e e'.symm
          · exact h5 j' o' q1 (by omega) q3
        · by_cases e2 : j = k
          · subst e2; rw [ho] at hjo; cases hjo; rw [hd]; simp; exact fun e' => e e'.symm
          · exact ih2 h j o (by omega) hjo

/-- The registers: what the last writer that has been carried out has left. -/
def DD.Regs (X : DD) (S : List Nat) (μ : Mu) (tm : Array Value) : Prop := ∀ t,
  (∀ j o, j ∈ S → X.ops[j]? = some o → o.dst = some t → (∀ k o', k ∈ S → X.ops[k]? = some o' → o'.dst = some t → k ≤ j) → VRel μ (X.val j) (tm.getD t undef)) ∧
  ((∀ j o, j ∈ S → X.ops[j]? = some o → o.dst ≠ some t) → Nat.testBit X.need t = true → VRel μ (X.r.get (pth t)) (tm.getD t undef))

theorem DD.Regs.mono {S : List Nat} {μ μ' : Mu} {tm : Array Value} (hle : Le μ μ') (h : X.Regs S μ tm) : X.Regs S μ' tm := fun t => ⟨fun j o h1 h2 h3 h4 => ((h t).1 j o h1 h2 h3 h4).mono hle, fun h1 h2 => ((h t).2 h1 h2).mono hle⟩

theorem DHyp.reg_rel (hX : DHyp X) {S : List Nat} (hcl : Closed X.ops S) {μ : Mu} {tm : Array Value} (hr : X.Regs S μ tm) {i : Nat} (hi : i ≤ X.N) (hni : i ∉ S) (hrd : ReadyIn X.ops S i) {s : DStep} (hs : X.steps[i]? = some s) {t : Nat} (ht : t ∈ namesOf X.ops s.o) :
    VRel μ (getAcc i (X.f i).env X.r (accOf X.P X.need s.loc (.tmp t))) (tm.getD t undef) := by
  obtain ⟨hin, hsi, hso, hloc, hsound⟩ := hX.step_of hs
  obtain ⟨f1, f2⟩ := dloc_find X.ops.toList t i (by simp; omega)
  -- no writer behind has been carried out
  have hlate : ∀ k o', k ∈ S → X.ops[k]? = some o' → o'.dst = some t → k < i := fun k o' hk ho' hd => by
    have hks : k < X.ops.size := (Array.getElem?_eq_some_iff.1 ho').1
    rcases Nat.lt_trichotomy k i with h | h | h
    · exact h
    · subst h; exact absurd hk hni
    · obtain ⟨s', q1, q2, q3, q4, q5⟩ := hX.step_get hks
      rw [ho'] at q3; cases q3
      have := hX.apart h hs q1 (.inr ⟨t, hd, ht⟩)
      exact absurd (q5 S hcl (hcl k hk) i this) hni
  simp only [accOf, hloc]
  cases hf : findLoc t (dloc (X.ops.toList.take i) 0 []) with
  | some a =>
    obtain ⟨j, o, hj, rfl, hjo, hd, hlast⟩ := f1 a hf
    have hjo' : X.ops[j]? = some o := by simpa using hjo
    obtain ⟨s', q1, q2, q3, q4, q5⟩ := hX.step_get (i := j) (by omega)
    rw [hjo'] at q3; cases q3
    have hjS : j ∈ S := hsound S hcl hrd j (hX.apart hj q1 hs (.inl ⟨t, hd, ht⟩))
    have := (hr t).1 j _ hjS hjo' hd fun k o' hk ho' hkd => by
      have hki := hlate k o' hk ho' hkd
      rcases Nat.lt_or_ge j k with h | h
      · exact absurd hkd (hlast k o' h hki (by simpa using ho'))
      · exact h
    have hv : getAcc i (X.f i).env X.r (.env j) = X.val j := by
      simp only [getAcc, DD.val]
      rw [hX.env_nth hi hj]
    simp only [hv]; exact this
  | none =>
    simp only []
    cases hb : Nat.testBit X.need t with
    | false => trivial
    | true =>
      exact (hr t).2 (fun j o hj ho hd => f2 hf j o (hlate j o hj ho hd) (by simpa using ho) hd) hb

theorem DHyp.regs_put (hX : DHyp X) {S : List Nat} (hcl : Closed X.ops S) {μ : Mu} {a : Act} (hsz : a.tmps.size = X.nt) (hr : X.Regs S μ a.tmps) {i : Nat} (hni : i ∉ S) (hrd : ReadyIn X.ops S i) {s : DStep} (hs : X.steps[i]? = some s) {u : Value} (hu : VRel μ (X.val i) u) :
    X.Regs (i :: S) μ (a.put s.o.dst u).tmps := by
  obtain ⟨hin, hsi, hso, hloc, hsound⟩ := hX.step_of hs
  have hlt : ∀ t, s.o.dst = some t → t < a.tmps.size := fun t h => by
    rw [hsz]; exact hX.hops s.o (by rw [← Array.getElem?_toList] at hso; exact List.mem_of_getElem? hso) t h
  intro t
  by_cases hd : s.o.dst = some t
  · have hget : (a.put s.o.dst u).tmps.getD t undef = u := by
      rw [hd]; simp only [Act.put]; rw [getD_set (hlt t hd), if_pos rfl]
    have hbelow : ∀ k o', k ∈ S → X.ops[k]? = some o' → o'.dst = some t → k < i := fun k o' hk ho' hkd => by
      have hks : k < X.ops.size := (Array.getElem?_eq_some_iff.1 ho').1
      rcases Nat.lt_trichotomy k i with h | h | h
      · exact h
      · subst h; exact absurd hk hni
      · obtain ⟨s', q1, q2, q3, q4, q5⟩ := hX.step_get hks
        rw [ho'] at q3; cases q3
        have := hX.apart h hs q1 (.inr ⟨t, hkd, by simp [namesOf, hd]⟩)
        exact absurd (q5 S hcl (hcl k hk) i this) hni
    refine ⟨fun j o hj ho hjd hmax => ?_, fun hno => absurd hd (hno i s.o (by simp) hso)⟩
    have hij := hmax i s.o (by simp) hso hd
    rcases List.mem_cons.1 hj with rfl | hj
    · rw [hget]; exact hu
    · have := hbelow j o hj ho hjd; omega
  · have hget : (a.put s.o.dst u).tmps.getD t undef = a.tmps.getD t undef := by
      cases hdd : s.o.dst with
      | none => rfl
      | some d =>
        simp only [Act.put]
        rw [getD_set (hlt d hdd), if_neg (fun e => hd (by rw [hdd, e]))]
    rw [hget]
    refine ⟨fun j o hj ho hjd hmax => ?_, fun hno hb => (hr t).2 (fun j o hj ho => hno j o (by simp [hj]) ho) hb⟩
    rcases List.mem_cons.1 hj with rfl | hj
    · rw [hso] at ho; cases ho; exact absurd hjd hd
    · exact (hr t).1 j o hj ho hjd fun k o' hk ho' hkd => hmax k o' (by simp [hk]) ho' hkd

-- reserved blocks

def Pend (μ : Mu) (w : World) (b : Nat) (ob : AObj) : Prop := ∃ i O, μ b = some i ∧ w.heap[i.blk]? = some O ∧ (∀ μ' w', Le μ μ' → w'.heap[i.blk]? = some O → ORel μ' ob i w') ∧ (∀ c j, c ≠ b → μ c = some j → j.blk ≠ i.blk)

theorem HRel.reserve {μ : Mu} {H : AHeap} {w : World} (h : HRel μ H w) {b : Nat} {ob : AObj} (hb : b < H.n) (hp : μ b = none ∨ Pend μ w b ob) : HRel μ (H.set b (some ob)) w := by
  refine ⟨fun c o i hc hi => ?_, fun c d i j hc hd hi hj e => ?_, fun c i hi => h.lt c i hi, fun c hc => ?_⟩
  · rw [AHeap.get_set] at hc
    by_cases e : c = b
    · subst e
      rw [if_pos rfl] at hc; cases hc
      rcases hp with hp | ⟨i', O, h1, h2, h3, h4⟩
      · rw [hp] at hi; cases hi
      · rw [h1] at hi; cases hi
        exact h3 μ w (Le.refl μ) h2
    · rw [if_neg e] at hc; exact h.rel c o i hc hi
  · rw [AHeap.get_set] at hc hd
    by_cases e1 : c = b
    · by_cases e2 : d = b
      · rw [e1, e2]
      · subst e1
        rcases hp with hp | ⟨i', O, h1, h2, h3, h4⟩
        · rw [hp] at hi; cases hi
        · rw [h1] at hi; cases hi
          exact absurd e.symm (h4 d j e2 hj)
    · by_cases e2 : d = b
      · subst e2
        rcases hp with hp | ⟨i', O, h1, h2, h3, h4⟩
        · rw [hp] at hj; cases hj
        · rw [h1] at hj; cases hj
          exact absurd e (h4 c i e1 hi)
      · rw [if_neg e1] at hc; rw [if_neg e2] at hd
        exact h.inj c d i j hc hd hi hj e
  · rw [AHeap.get_set, if_neg (by simp at hc; omega)]; exact h.bound c (by simpa using hc)
theorem Adv.reserve {μ0 μ : Mu} {H Hc : AHeap} {w0 w : World} (hh : HRel μ0 H w0) (h : Adv μ0 H w0 μ Hc w) {b : Nat} (ob : AObj) (hb : H.n ≤ b) : Adv μ0 H w0 μ (Hc.set b (some ob)) w where
  le := h.le
  size := h.size
  n := by simpa using h.n
  live := fun c hc hl => h.live c hc (by rw [AHeap.get_set, if_neg (by omega)] at hl; exact hl)
  idle := fun c hc hm => by rw [AHeap.get_set, if_neg (by omega)]; exact h.idle c hc hm
  old := h.old
  new := h.new
  ro := fun c o i hc hr hi => by
    have := (hh.lt c i hi).1
    rw [AHeap.get_set, if_neg (by omega)]; exact h.ro c o i hc hr hi
  os := h.os
  out := h.out
  tape := h.tape
  drawn := h.drawn

theorem HRel.early {μ : Mu} {H : AHeap} {w : World} (h : HRel μ H w) {b : Nat} {ob : AObj} {O : Obj} {sz : Nat} (hb : b < H.n) (hm : μ b = none) (ho : ∀ o, H.get b = some o → o = ob)
    (hob : ∀ μ' w', Le μ μ' → w'.heap[w.heap.size]? = some O → ORel μ' ob ⟨w.heap.size, 0, sz⟩ w') : Le μ (upd μ b ⟨w.heap.size, 0, sz⟩) ∧ HRel (upd μ b ⟨w.heap.size, 0, sz⟩) H (w.alloc O) := by
  have hle : Le μ (upd μ b ⟨w.heap.size, 0, sz⟩) := fun c i hi => by
    rw [upd_other]; exact hi
    intro e; subst e; rw [hm] at hi; cases hi
  have hold : ∀ r, r < w.heap.size → (w.alloc O).heap[r]? = w.heap[r]? := fun r hr => by
    simp only [World.alloc, Array.getElem?_push]; rw [if_neg (by omega)]
  refine ⟨hle, fun c o i hc hi => ?_, fun c d i j hc hd hi hj e => ?_, fun c i hi => ?_, h.bound⟩
  · by_cases e : c = b
    · subst e
      rw [upd_same] at hi; cases hi
      rw [ho o hc]
      exact hob _ _ hle (World.heap_alloc_new _ _)
    · rw [upd_other _ _ e] at hi
      exact (h.rel c o i hc hi).mono hle (hold _ (h.lt c i hi).2)
  · by_cases e1 : c = b
    · by_cases e2 : d = b
      · rw [e1, e2]
      · subst e1; rw [upd_same] at hi; cases hi
        rw [upd_other _ _ e2] at hj
        have := (h.lt d j hj).2
        simp only at e; omega
    · by_cases e2 : d = b
      · subst e2; rw [upd_same] at hj; cases hj
        rw [upd_other _ _ e1] at hi
        have := (h.lt c i hi).2
        simp only at e; omega
      · rw [upd_other _ _ e1] at hi; rw [upd_other _ _ e2] at hj
        exact h.inj c d i j hc hd hi hj e
  · by_cases e : c = b
    · subst e; rw [upd_same] at hi; cases hi
      exact ⟨hb, by simp⟩
    · rw [upd_other _ _ e] at hi
      have := h.lt c i hi
      simp only [World.size_alloc]; omega
theorem Adv.early {μ0 μ : Mu} {H Hc : AHeap} {w0 w : World} (hh : HRel μ0 H w0) (h : Adv μ0 H w0 μ Hc w) {b : Nat} (hb : H.n ≤ b) (hm : μ b = none) {O : Obj} {sz : Nat} : Adv μ0 H w0 (upd μ b ⟨w.heap.size, 0, sz⟩) Hc (w.alloc O) := by
  have hold : ∀ r, r < w.heap.size → (w.alloc O).heap[r]? = w.heap[r]? := fun r hr => by
    simp only [World.alloc, Array.getElem?_push]; rw [if_neg (by omega)]
  exact {
    le := fun c i hi => by
      have h1 := h.le c i hi
      rw [upd_other]; exact h1
      intro e; subst e; rw [hm] at h1; cases h1
    size := by have := h.size; simp only [World.size_alloc]; omega
    n := h.n
    live := h.live
    idle := h.idle
    old := fun r hr hn => (hold r (Nat.lt_of_lt_of_le hr h.size)).trans (h.old r hr hn)
    new := fun c i h1 h2 => by
      by_cases e : c = b
      · subst e; rw [upd_same] at h2; cases h2; exact ⟨hb, .inl h.size⟩
      · rw [upd_other _ _ e] at h2; exact h.new c i h1 h2
    ro := fun c o i hc hr hi => by
      obtain ⟨h1, h2⟩ := h.ro c o i hc hr hi
      exact ⟨h1, (hold _ (Nat.lt_of_lt_of_le (hh.lt c i hi).2 h.size)).trans h2⟩
    os := h.os
    out := h.out
    tape := h.tape
    drawn := h.drawn }
theorem Pend.early {μ : Mu} {H : AHeap} {w : World} (h : HRel μ H w) {b c : Nat} {ob : AObj} {O : Obj} {sz : Nat} (hm : μ b = none) (hp : Pend μ w c ob) : Pend (upd μ b ⟨w.heap.size, 0, sz⟩) (w.alloc O) c ob := by
  obtain ⟨i, O', h1, h2, h3, h4⟩ := hp
  have hne : c ≠ b := by intro e; subst e; rw [hm] at h1; cases h1
  have hlt := (h.lt c i h1).2
  have hle : Le μ (upd μ b ⟨w.heap.size, 0, sz⟩) := fun c i hi => by
    rw [upd_other]; exact hi
    intro e; subst e; rw [hm] at hi; cases hi
  refine ⟨i, O', by rw [upd_other _ _ hne]; exact h1, ?_, fun μ' w' hl hO => h3 μ' w' (hle.trans hl) hO, fun d j hd hj => ?_⟩
  · simp only [World.alloc, Array.getElem?_push]; rw [if_neg (by omega)]; exact h2
  · by_cases e : d = b
    · subst e; rw [upd_same] at hj; cases hj; simp only; omega
    · rw [upd_other _ _ e] at hj; exact h4 d j hd hj
theorem Pend.adv {μ μ' : Mu} {H H' : AHeap} {w w' : World} (hh : HRel μ H w) (ha : Adv μ H w μ' H' w') {c : Nat} {ob : AObj} (hg : H.get c = none) (hp : Pend μ w c ob) : Pend μ' w' c ob := by
  obtain ⟨i, O', h1, h2, h3, h4⟩ := hp
  have hlt := (hh.lt c i h1).2
  refine ⟨i, O', ha.le _ _ h1, ?_, fun μ2 w2 hl hO => h3 μ2 w2 (ha.le.trans hl) hO, fun d j hd hj => ?_⟩
  · rw [ha.old i.blk hlt]
    · exact h2
    · intro d j hl hj
      exact h4 d j (fun e => by subst e; exact hl hg) hj
  · cases hd0 : μ d with
    | some j0 =>
      have := ha.le d j0 hd0
      rw [hj] at this; cases this
      exact h4 d j hd hd0
    | none =>
      obtain ⟨_, hn | ⟨e, o, k, he, _, hk, hkj⟩⟩ := ha.new d j hd0 hj
      · omega
      · rw [← hkj]
        exact h4 e k (fun e' => by subst e'; rw [hg] at he; cases he) hk
end
end AEv

/-
  THE ABSTRACT EVALUATOR: regions whose order is drawn: any order comes to what the text's order comes to.
-/
namespace AEv
open Go

section
variable {X : DD}

def AllocAt (X : DD) (i : Nat) (s : DStep) (v : AV) (ob : AObj) : Prop :=
  i < X.N ∧ kindOf X.P s.o.op = .alloc ∧ wantedA (dguard X.P X.need X.ops X.r s.i (X.f i).env s) = some true ∧ allocA X.P s.o.op (gOf X.P X.need X.r s (X.f i).env) (X.H.n + i) = some (v, ob)

structure Inv (X : DD) (S : List Nat) (c : Nat) (μ : Mu) (w : World) (a : Act) (cs : List Frame) : Prop where
  hc : c ≤ X.N
  closed : Closed X.ops S
  sub : ∀ i ∈ S, i < X.N
  eff : ∀ i s, X.steps[i]? = some s → i < X.N → kindOf X.P s.o.op = .eff → (i ∈ S ↔ i < c)
  rel : HRel μ (X.f c).h w
  adv : Adv X.μ0 X.H X.w0 μ (X.f c).h w
  dr : DRels μ (X.f c).d a.defers
  qr : QRel μ X.b.kind X.cs0 (X.f c).q cs
  im : ∀ i, i < X.ops.size → i ∉ S → μ (X.H.n + i) = none
  lay : ∀ i s v ob, X.steps[i]? = some s → AllocAt X i s v ob → i ∉ S → i < c → (X.f c).h.get (X.H.n + i) = some ob
  non : ∀ i, c ≤ i → i < X.ops.size → (X.f c).h.get (X.H.n + i) = none
  big : X.H.n + X.ops.size ≤ (X.f c).h.n
  pend : ∀ i s v ob, X.steps[i]? = some s → AllocAt X i s v ob → i ∈ S → c ≤ i → Pend μ w (X.H.n + i) ob
  regs : X.Regs S μ a.tmps
  sz : a.tmps.size = X.nt

/-- A step of the text that is no effect is passed. -/
theorem Inv.pass (hX : DHyp X) {S : List Nat} {c : Nat} {μ : Mu} {w : World} {a : Act} {cs : List Frame} (h : Inv X S c μ w a cs) (hlt : c < X.N) {s : DStep} (hs : X.steps[c]? = some s) (hk : kindOf X.P s.o.op ≠ .eff) : Inv X S (c + 1) μ w a cs := by
  obtain ⟨hin, hsi, hso, hloc, hsound⟩ := hX.step_of hs
  have ht := hX.tr c s hlt hs
  have heff : ∀ i s', X.steps[i]? = some s' → i < X.N → kindOf X.P s'.o.op = .eff → (i ∈ S ↔ i < c + 1) := fun i s' h1 h2 h3 => by
    rw [h.eff i s' h1 h2 h3]
    have : i ≠ c := by intro e; subst e; rw [hs] at h1; cases h1; exact hk h3
    omega
  have same : (X.f (c + 1)).h = (X.f c).h → (X.f (c + 1)).d = (X.f c).d → (X.f (c + 1)).q = (X.f c).q → (∀ v ob, ¬ AllocAt X c s v ob) → Inv X S (c + 1) μ w a cs := fun e1 e2 e3 hna => by
    refine ⟨hlt, h.closed, h.sub, heff, by rw [e1]; exact h.rel, by rw [e1]; exact h.adv, by rw [e2]; exact h.dr, by rw [e3]; exact h.qr, h.im, fun i s' v ob h1 h2 h3 h4 => ?_, fun i h1 h2 => (by rw [e1]; exact h.non i (by omega) h2), by rw [e1]; exact h.big, fun i s' v ob h1 h2 h3 h4 => h.pend i s' v ob h1 h2 h3 (by omega), h.regs, h.sz⟩
    by_cases e : i = c
    · subst e; rw [hs] at h1; cases h1; exact absurd h2 (hna v ob)
    · rw [e1]; exact h.lay i s' v ob h1 h2 h3 (by omega)
  generalize hf : X.f (c + 1) = st at ht
  cases ht with
  | askip hk' hw =>
    refine same (by rw [hf]) (by rw [hf]) (by rw [hf]) fun v ob hal => ?_
    have := hal.2.2.1
    rw [hw] at this; cases this
  | pure hk' he =>
    refine same (by rw [hf]) (by rw [hf]) (by rw [hf]) fun v ob hal => ?_
    have := hal.2.1
    rw [hk'] at this; cases this
  | eff hk' ho he => exact absurd hk' hk
  | alloc hk' hw ha =>
    rename_i v ob
    have e1 : (X.f (c + 1)).h = (X.f c).h.set (X.H.n + c) (some ob) := by rw [hf, hsi]
    have e2 : (X.f (c + 1)).d = (X.f c).d := by rw [hf]
    have e3 : (X.f (c + 1)).q = (X.f c).q := by rw [hf]
    have hal : AllocAt X c s v ob := ⟨hlt, hk', hw, by rw [← hsi]; rw [← hsi] at ha; exact ha⟩
    have hb : X.H.n + c < (X.f c).h.n := by have := h.big; omega
    have hp : μ (X.H.n + c) = none ∨ Pend μ w (X.H.n + c) ob := by
      by_cases hcS : c ∈ S
      · exact .inr (h.pend c s v ob hs hal hcS (Nat.le_refl _))
      · exact .inl (h.im c hin hcS)
    refine ⟨hlt, h.closed, h.sub, heff, by rw [e1]; exact h.rel.reserve hb hp, by rw [e1]; exact h.adv.reserve hX.hh0 ob (by omega), by rw [e2]; exact h.dr, by rw [e3]; exact h.qr, h.im, fun i s' v' ob' h1 h2 h3 h4 => ?_, fun i h1 h2 => ?_, by rw [e1]; simpa using h.big, fun i s' v ob h1 h2 h3 h4 => h.pend i s' v ob h1 h2 h3 (by omega), h.regs, h.sz⟩
    · rw [e1, AHeap.get_set]
      by_cases e : i = c
      · subst e
        rw [hs] at h1; cases h1
        have := h2.2.2.2.symm.trans hal.2.2.2
        cases this
        rw [if_pos rfl]
      · rw [if_neg (by omega)]; exact h.lay i s' v' ob' h1 h2 h3 (by omega)
    · rw [e1, AHeap.get_set, if_neg (by omega)]
      exact h.non i (by omega) h2

/-- The place is an effect, or the end. -/
def Norm (X : DD) (c : Nat) : Prop := c = X.N ∨ ∃ s, X.steps[c]? = some s ∧ kindOf X.P s.o.op = .eff
theorem Inv.norm (hX : DHyp X) {S : List Nat} {μ : Mu} {w : World} {a : Act} {cs : List Frame} : ∀ (k c : Nat), X.N - c = k → Inv X S c μ w a cs → ∃ c', Norm X c' ∧ Inv X S c' μ w a cs
  | 0, c, hk, h => ⟨c, .inl (by have := h.hc; omega), h⟩
  | k + 1, c, hk, h => by
    obtain ⟨s, hs, _⟩ := hX.step_get (i := c) (by have := hX.hN; omega)
    by_cases he : kindOf X.P s.o.op = .eff
    · exact ⟨c, .inr ⟨s, hs, he⟩, h⟩
    · exact Inv.norm hX k (c + 1) (by omega) (h.pass hX (by omega) hs he)

/-- What an operation looks at, as the frame has it. -/
def gP (ops : Array Oper) (o : Oper) (g : Operand → AV) : Operand → AV
  | .tmp t => if (namesOf ops o).contains t then g (.tmp t) else .bad
  | x => g x
theorem gP_eq {ops : Array Oper} {o : Oper} {g : Operand → AV} : ∀ x ∈ o.op.operands, g x = gP ops o g x := by
  intro x hx
  cases x with
  | tmp t =>
    have : (namesOf ops o).contains t = true := by
      have h1 : t ∈ o.op.operands.toList.filterMap fun | .tmp t => some t | _ => none := List.mem_filterMap.2 ⟨.tmp t, by simpa using hx, rfl⟩
      simp only [namesOf, List.contains_iff_mem, List.mem_append]
      exact .inl (.inr h1)
    simp only [gP, this, if_true]
  | _ => rfl
theorem gP_rel (hX : DHyp X) {S : List Nat} {c : Nat} {μ : Mu} {w : World} {a : Act} {cs : List Frame} (h : Inv X S c μ w a cs) {i : Nat} (hi : i ≤ X.N) (hni : i ∉ S) (hrd : ReadyIn X.ops S i) {s : DStep} (hs : X.steps[i]? = some s) :
    ∀ x, VRel μ (gP X.ops s.o (gOf X.P X.need X.r s (X.f i).env) x) (a.eval x) := by
  obtain ⟨hin, hsi, hso, hloc, hsound⟩ := hX.step_of hs
  intro x
  cases x with
  | tmp t =>
    simp only [gP]
    split
    · rename_i ht
      have := hX.reg_rel h.closed h.regs hi hni hrd hs (t := t) (by simpa using ht)
      unfold gOf; rw [hsi]; exact this
    · trivial
  | const v => exact absV_rel μ v
  | global g =>
    simp only [gP, gOf, accOf, Act.eval]
    cases hb : Nat.blt g X.P.globals.size with
    | false => exact trivial
    | true =>
      obtain ⟨i, h1, h2, h3⟩ := hX.hgl.mono h.adv.le g (by simpa using hb)
      obtain ⟨ib, i0, isz⟩ := i
      simp only at h2 h3
      subst h2; subst h3
      exact ⟨_, h1, rfl⟩
  | func f => exact ⟨[], [], rfl, rfl, rfl⟩
theorem dguard_ok (hX : DHyp X) {S : List Nat} {c : Nat} {μ : Mu} {w : World} {a : Act} {cs : List Frame} (h : Inv X S c μ w a cs) {i : Nat} (hi : i ≤ X.N) (hni : i ∉ S) (hrd : ReadyIn X.ops S i) {s : DStep} (hs : X.steps[i]? = some s) :
    ∀ wb, wantedA (dguard X.P X.need X.ops X.r s.i (X.f i).env s) = some wb → Region.wanted s.o (yielded X.ops a.tmps) = wb := by
  obtain ⟨hin, hsi, hso, hloc, hsound⟩ := hX.step_of hs
  intro wb hw
  unfold dguard guardAcc at hw
  unfold Region.wanted
  cases hg : s.o.guard with
  | none => rw [hg] at hw; simp only [wantedA] at hw; cases hw; rfl
  | some p =>
    obtain ⟨j, bb⟩ := p
    rw [hg] at hw
    simp only at hw ⊢
    cases ht : (X.ops[j]?).bind (·.dst) with
    | none => rw [ht] at hw; simp only [getAcc, wantedA] at hw; cases hw
    | some t =>
      rw [ht] at hw
      simp only at hw
      have hr := hX.reg_rel h.closed h.regs hi hni hrd hs (t := t) (by
        simp only [namesOf, List.mem_append]
        refine .inr ?_
        rw [hg]; simp only [ht]; simp)
      rw [yielded_of ht]
      rw [hsi] at hw
      generalize getAcc i (X.f i).env X.r (accOf X.P X.need s.loc (.tmp t)) = v at hw hr
      unfold wantedA at hw
      split at hw
      · rename_i he; cases he
      · rename_i he; cases he; cases hw
        have hr' : a.tmps.getD t undef = _ := hr
        rw [hr']; rfl
      · rename_i he; cases he; cases hw
        obtain ⟨l, hl, hl2⟩ := hr
        cases hl2
        rw [hl]; rfl
      · cases hw

theorem evOne_congr {P : Program} {inR : Bool} {call : CallT → List AV → AHeap → FRes} {gd : Option (AV × Bool)} {o : Oper} {g g' : Operand → AV} {d : List ADef} {q : Rc} {H : AHeap} (h : ∀ x ∈ o.op.operands, g x = g' x) : evOne P inR call gd o g d q H = evOne P inR call gd o g' d q H := by
  unfold evOne; rw [evOp_congr o H h]

/-- An operation that is carried out by 'evOne': where the frame is then. -/
theorem Inv.one (hX : DHyp X) {S : List Nat} {c : Nat} {μ : Mu} {w : World} {a : Act} {cs : List Frame} (h : Inv X S c μ w a cs) {i : Nat} (hi : i ≤ X.N) (hni : i ∉ S) (hrd : ReadyIn X.ops S i) {s : DStep} (hs : X.steps[i]? = some s) (rest : List Nat) (k : List Item) :
    SOk X.P μ (X.f c).h w X.b a X.ops s.o i rest k X.cs0 cs (evOne X.P X.inR X.call (dguard X.P X.need X.ops X.r s.i (X.f i).env s) s.o (gOf X.P X.need X.r s (X.f i).env) (X.f c).d (X.f c).q (X.f c).h) := by
  obtain ⟨hin, hsi, hso, hloc, hsound⟩ := hX.step_of hs
  rw [evOne_congr (gP_eq (ops := X.ops))]
  exact evOne_ok hX.hc h.rel (hX.hgl.mono h.adv.le) hso (dguard_ok hX h hi hni hrd hs) (gP_rel hX h hi hni hrd hs) h.dr h.qr hX.hin

/-- Behind an operation that 'evOne' carries out. -/
theorem Inv.moved (hX : DHyp X) {S : List Nat} {c c' : Nat} {μ μ' : Mu} {w w' : World} {a : Act} {cs cs' : List Frame} (h : Inv X S c μ w a cs) {i : Nat} (hi : i < X.N) (hni : i ∉ S) (hrd : ReadyIn X.ops S i) {s : DStep} (hs : X.steps[i]? = some s) (hk : ∀ v ob, ¬ AllocAt X i s v ob)
    {u : Value} {ds : List Deferred} (hv : VRel μ' (X.val i) u) (hrel : HRel μ' (X.f c').h w') (hadv : Adv μ (X.f c).h w μ' (X.f c').h w') (hd : DRels μ' (X.f c').d ds) (hq : QRel μ' X.b.kind X.cs0 (X.f c').q cs')
    (hcase : (c' = c ∧ kindOf X.P s.o.op ≠ .eff) ∨ (c' = c + 1 ∧ i = c)) : Inv X (i :: S) c' μ' w' { tmps := (a.put s.o.dst u).tmps, defers := ds } cs' := by
  obtain ⟨hin, hsi, hso, hloc, hsound⟩ := hX.step_of hs
  have hle := hadv.le
  have hcc : c ≤ c' := by rcases hcase with ⟨e, _⟩ | ⟨e, _⟩ <;> omega
  have hbig := h.big
  refine ⟨?_, fun j hj => ?_, fun j hj => ?_, fun j s' h1 h2 h3 => ?_, hrel, Adv.trans hX.hh0 h.rel h.adv hadv, hd, hq, fun j h1 h2 => ?_, fun j s' v ob h1 h2 h3 h4 => ?_, fun j h1 h2 => ?_, ?_, fun j s' v ob h1 h2 h3 h4 => ?_, ?_, ?_⟩
  · rcases hcase with ⟨e, _⟩ | ⟨e, e2⟩
    · rw [e]; exact h.hc
    · omega
  · have hm : ReadyIn X.ops S j → ReadyIn X.ops (i :: S) j := fun hh o ho e he hb => List.mem_cons_of_mem _ (hh o ho e he hb)
    rcases List.mem_cons.1 hj with rfl | hj
    · exact hm hrd
    · exact hm (h.closed j hj)
  · rcases List.mem_cons.1 hj with rfl | hj
    · exact hi
    · exact h.sub j hj
  · have := h.eff j s' h1 h2 h3
    rw [List.mem_cons, this]
    rcases hcase with ⟨e, e2⟩ | ⟨e, e2⟩
    · subst e
      have : j ≠ i := by intro e; subst e; rw [hs] at h1; cases h1; exact e2 h3
      simp [this]
    · omega
  · have hnj : j ∉ S := fun hh => h2 (List.mem_cons_of_mem _ hh)
    cases hm : μ' (X.H.n + j) with
    | none => rfl
    | some im =>
      have := (hadv.new _ im (h.im j h1 hnj) hm).1
      omega
  · have hnj : j ∉ S := fun hh => h3 (List.mem_cons_of_mem _ hh)
    have hji : j ≠ i := fun e => h3 (by simp [e])
    have hjs := h2.1
    have hjc : j < c := by rcases hcase with ⟨e, _⟩ | ⟨e, e2⟩ <;> omega
    rw [hadv.idle _ (by have := hX.hN; omega) (h.im j (by have := hX.hN; omega) hnj)]
    exact h.lay j s' v ob h1 h2 hnj hjc
  · have h0 := h.non j (by omega) h2
    cases hg : (X.f c').h.get (X.H.n + j) with
    | none => rfl
    | some o => exact absurd h0 (hadv.live _ (by omega) (by rw [hg]; simp))
  · exact Nat.le_trans hbig hadv.n
  · have hji : j ≠ i := by
      intro e; subst e; rw [hs] at h1; cases h1; exact hk v ob h2
    have hjS : j ∈ S := by
      rcases List.mem_cons.1 h3 with e | hh
      · exact absurd e hji
      · exact hh
    have hjN := h2.1
    exact (h.pend j s' v ob h1 h2 hjS (by omega)).adv h.rel hadv (h.non j (by omega) (by have := hX.hN; omega))
  · exact hX.regs_put (a := a) h.closed h.sz (h.regs.mono hle) hni hrd hs hv
  · simpa using (put_size a s.o.dst u).trans h.sz

/-- The state ahead of an effect is one at which a look is asked. -/
theorem states_at {s : DStep} {v : AV} (hX : DHyp X) : ∀ (m : Nat), m ≤ X.N → ∀ (nx : Option Nat) (hcur : AHeap), statesOK X.P X.need X.ops X.r X.N (X.f X.N).env s v nx hcur (X.f m).sts = true →
    ∀ c s', c < m → X.steps[c]? = some s' → kindOf X.P s'.o.op = .eff → ∃ sts, sts = (X.f c).sts ∧ statesOK X.P X.need X.ops X.r X.N (X.f X.N).env s v (some c) (X.f c).h sts = true
  | 0, _, nx, hcur, h, c, s', hc, _, _ => by omega
  | m + 1, hm, nx, hcur, h, c, s', hc, hs', hk => by
    obtain ⟨sm, q1, q2, _⟩ := hX.step_get (i := m) (by have := hX.hN; omega)
    have ht := hX.tr m sm (by omega) q1
    by_cases e : c = m
    · subst e
      rw [q1] at hs'; cases hs'
      generalize hf : X.f (c + 1) = st at ht h
      cases ht with
      | askip hk' => rw [hk] at hk'; cases hk'
      | alloc hk' => rw [hk] at hk'; cases hk'
      | pure hk' => rw [hk] at hk'; cases hk'
      | eff hk' ho he =>
        unfold statesOK at h
        rw [Bool.and_eq_true] at h
        have h2 := h.2
        simp only [q2] at h2
        exact ⟨_, rfl, h2⟩
    · have hlt : c < m := by omega
      generalize hf : X.f (m + 1) = st at ht h
      cases ht with
      | askip hk' => exact states_at hX m (by omega) nx hcur h c s' hlt hs' hk
      | alloc hk' => exact states_at hX m (by omega) nx hcur h c s' hlt hs' hk
      | pure hk' => exact states_at hX m (by omega) nx hcur h c s' hlt hs' hk
      | eff hk' ho he =>
        unfold statesOK at h
        rw [Bool.and_eq_true] at h
        have h2 := h.2
        simp only at h2
        exact states_at hX m (by omega) _ _ h2 c s' hlt hs' hk

/-- The newest effect ahead of a place is one. -/
theorem sts_head (hX : DHyp X) : ∀ (m : Nat), m ≤ X.N → ∀ e mk h0 l, (X.f m).sts = (e, mk, h0) :: l → e < m ∧ ∃ s', X.steps[e]? = some s' ∧ kindOf X.P s'.o.op = .eff ∧ mk = s'.bef
  | 0, _, e, mk, h0, l, h => by rw [hX.sts0] at h; cases h
  | m + 1, hm, e, mk, h0, l, h => by
    obtain ⟨sm, q1, q2, _⟩ := hX.step_get (i := m) (by have := hX.hN; omega)
    have ht := hX.tr m sm (by omega) q1
    generalize hf : X.f (m + 1) = st at ht h
    cases ht with
    | eff hk' ho he =>
      simp only [List.cons.injEq, Prod.mk.injEq] at h
      obtain ⟨⟨rfl, rfl, rfl⟩, rfl⟩ := h
      exact ⟨by omega, sm, by rw [q2]; exact q1, hk', rfl⟩
    | _ => obtain ⟨h1, h2⟩ := sts_head hX m (by omega) e mk h0 l h; exact ⟨by omega, h2⟩

/-- An operation that only looks yields here what it yields in the text's order. -/
theorem Inv.looks (hX : DHyp X) {S : List Nat} {c : Nat} {μ : Mu} {w : World} {a : Act} {cs : List Frame} (h : Inv X S c μ w a cs) (hn : Norm X c) {i : Nat} (hi : i < X.N) (hni : i ∉ S) (hrd : ReadyIn X.ops S i) {s : DStep} (hs : X.steps[i]? = some s) (hk : kindOf X.P s.o.op = .pure) :
    looksOK X.P X.need X.ops X.r X.N (X.f X.N).env s (X.val i) (X.f c).h = true := by
  obtain ⟨hin, hsi, hso, hloc, hsound⟩ := hX.step_of hs
  obtain ⟨nx, h1, h2⟩ := hX.looks i s hi hs hk
  -- what is asked of a state, off its place
  have off : ∀ (nx : Option Nat), (∀ e, nx = some e → e = c ∧ c ∉ S) → statesOK X.P X.need X.ops X.r X.N (X.f X.N).env s (X.val i) nx (X.f c).h (X.f c).sts = true → looksOK X.P X.need X.ops X.r X.N (X.f X.N).env s (X.val i) (X.f c).h = true := by
    intro nx hnx hst
    unfold statesOK at hst
    rw [Bool.and_eq_true] at hst
    have h3 := hst.1
    split at h3
    · rename_i hb
      exfalso
      rw [Bool.or_eq_true] at hb
      rcases hb with hb | hb
      · cases nx with
        | none => cases hb
        | some e =>
          obtain ⟨rfl, q⟩ := hnx e rfl
          exact q (hsound S h.closed hrd _ hb)
      · cases hsts : (X.f c).sts with
        | nil => rw [hsts] at hb; cases hb
        | cons p l =>
          obtain ⟨e, mk, h0⟩ := p
          rw [hsts] at hb
          obtain ⟨q1, s', q2, q3, rfl⟩ := sts_head hX c h.hc e mk h0 l hsts
          have heS := (h.eff e s' q2 (by have := h.hc; omega) q3).2 q1
          exact hni ((hX.step_of q2).2.2.2.2 S h.closed (h.closed e heS) i (by rw [hsi] at hb; exact hb))
    · exact h3
  have hcN : ∀ e s', X.steps[e]? = some s' → e = X.N → e ∉ S := fun e s' _ he hh => by have := h.sub e hh; omega
  by_cases hcc : c = X.N
  · subst hcc
    exact off nx (fun e he => ⟨(h2 e he).1, fun hh => by have := h.sub _ hh; omega⟩) h1
  · have hclt : c < X.N := by have := h.hc; omega
    rcases hn with e | ⟨s', q1, q2⟩
    · exact absurd e hcc
    · obtain ⟨sts, rfl, h4⟩ := states_at hX X.N (Nat.le_refl _) nx _ h1 c s' hclt q1 q2
      refine off (some c) (fun e he => ⟨by cases he; rfl, fun hh => ?_⟩) h4
      have := (h.eff c s' q1 hclt q2).1 hh
      omega
end
end AEv

/-
  THE ABSTRACT EVALUATOR: regions whose order is drawn, joined.
-/
namespace AEv
open Go

section
variable {X : DD}

theorem sts_recent (hX : DHyp X) : ∀ (m : Nat), m ≤ X.N →
    (∀ e mk h0 l, (X.f m).sts = (e, mk, h0) :: l → ∀ j s', e < j → j < m → X.steps[j]? = some s' → kindOf X.P s'.o.op ≠ .eff) ∧
    ((X.f m).sts = [] → ∀ j s', j < m → X.steps[j]? = some s' → kindOf X.P s'.o.op ≠ .eff)
  | 0, _ => ⟨fun e mk h0 l h => (by rw [hX.sts0] at h; cases h), fun _ j s' hj => (by omega)⟩
  | m + 1, hm => by
    obtain ⟨ih1, ih2⟩ := sts_recent hX m (by omega)
    obtain ⟨sm, q1, q2, _⟩ := hX.step_get (i := m) (by have := hX.hN; omega)
    have ht := hX.tr m sm (by omega) q1
    have same : kindOf X.P sm.o.op ≠ .eff → (X.f (m + 1)).sts = (X.f m).sts → _ := fun hk he => (⟨fun e mk h0 l h j s' h1 h2 h3 => by
        by_cases e' : j = m
        · subst e'; rw [q1] at h3; cases h3; exact hk
        · exact ih1 e mk h0 l (he ▸ h) j s' h1 (by omega) h3, fun h j s' h2 h3 => by
        by_cases e' : j = m
        · subst e'; rw [q1] at h3; cases h3; exact hk
        · exact ih2 (he ▸ h) j s' (by omega) h3⟩ :
      (∀ e mk h0 l, (X.f (m + 1)).sts = (e, mk, h0) :: l → ∀ j s', e < j → j < m + 1 → X.steps[j]? = some s' → kindOf X.P s'.o.op ≠ .eff) ∧ ((X.f (m + 1)).sts = [] → ∀ j s', j < m + 1 → X.steps[j]? = some s' → kindOf X.P s'.o.op ≠ .eff))
    generalize hf : X.f (m + 1) = st at ht same ⊢
    clear hf
    cases ht with
    | askip hk' => exact same (by rw [hk']; simp) rfl
    | alloc hk' => exact same (by rw [hk']; simp) rfl
    | pure hk' => exact same (by rw [hk']; simp) rfl
    | eff hk' ho he =>
      refine ⟨fun e mk h0 l h j s' h1 h2 h3 => ?_, fun h => by cases h⟩
      simp only [List.cons.injEq, Prod.mk.injEq] at h
      obtain ⟨⟨rfl, _, _⟩, _⟩ := h
      omega

theorem Inv.at_eff (hX : DHyp X) {S : List Nat} {c : Nat} {μ : Mu} {w : World} {a : Act} {cs : List Frame} (h : Inv X S c μ w a cs) (hn : Norm X c) {i : Nat} (hi : i ≤ X.N) (hni : i ∉ S) (hrd : ReadyIn X.ops S i) {s : DStep} (hs : X.steps[i]? = some s)
    (hk : kindOf X.P s.o.op = .eff) (ho : ∀ e m h0 l, (X.f i).sts = (e, m, h0) :: l → Nat.testBit s.bef e = true) : i = c := by
  obtain ⟨hin, hsi, hso, hloc, hsound⟩ := hX.step_of hs
  have hci : c ≤ i := by
    rcases Nat.lt_or_ge i X.N with h1 | h1
    · have := h.eff i s hs h1 hk
      rcases Nat.lt_or_ge i c with h2 | h2
      · exact absurd (this.2 h2) hni
      · exact h2
    · have := h.hc; omega
  rcases Nat.lt_or_ge c i with hlt | hge
  · exfalso
    rcases hn with e | ⟨s', q1, q2⟩
    · omega
    · obtain ⟨r1, r2⟩ := sts_recent hX i hi
      cases hsts : (X.f i).sts with
      | nil => exact r2 hsts c s' hlt q1 q2
      | cons p l =>
        obtain ⟨e, mk, h0⟩ := p
        obtain ⟨p1, s2, p2, p3, _⟩ := sts_head hX i hi e mk h0 l hsts
        have heS := hsound S h.closed hrd e (ho e mk h0 l hsts)
        have hec := (h.eff e s2 p2 (by omega) p3).1 heS
        exact r1 e mk h0 l hsts c s' hec hlt q1 q2
  · omega

/-- An operation that lays a block. -/
theorem Inv.lays (hX : DHyp X) {S : List Nat} {c : Nat} {μ : Mu} {w : World} {a : Act} {cs : List Frame} (h : Inv X S c μ w a cs) {i : Nat} (hi : i < X.N) (hni : i ∉ S) (hrd : ReadyIn X.ops S i) {s : DStep} (hs : X.steps[i]? = some s) {v : AV} {ob : AObj} (hal : AllocAt X i s v ob) (hv : X.val i = v) (rest : List Nat) (k : List Item) :
    ∃ μ' w' a' , Steps X.P (lone (X.b.atR a (.inRegion X.ops (i :: rest) :: k)) cs w) (lone (X.b.atR a' (.inRegion X.ops rest :: k)) cs w') ∧ Inv X (i :: S) c μ' w' a' cs := by
  obtain ⟨hin, hsi, hso, hloc, hsound⟩ := hX.step_of hs
  obtain ⟨_, hk, hw, ha⟩ := hal
  have hwt := dguard_ok hX h (Nat.le_of_lt hi) hni hrd hs _ hw
  rw [allocA_congr _ _ (gP_eq (ops := X.ops))] at ha
  obtain ⟨u, O, sz, hl⟩ := allocA_ok (P := X.P) (w := w) s.o (gP_rel hX h (Nat.le_of_lt hi) hni hrd hs) ha
  have hst := stepGR_op (P := X.P) (b := X.b) (a := a) (k := k) (cs := cs) (w := w) (rest := rest) hso hwt
  have hsem : s.o.semAt X.b.roundOf a.eval = execOp a.eval s.o := Oper.semAt_eq _ _ _ fun cc e => by rw [e] at hk; cases hk
  rw [hsem] at hst
  obtain ⟨g1, _⟩ := stepG_goes hst
  have hs1 := g1 _ _ hl.run
  have hfin : (X.b.atR a (.inRegion X.ops (i :: rest) :: k)).finish u = X.b.atR (a.put s.o.dst u) (.inRegion X.ops rest :: k) := by
    rw [Frame.finish_atR, hso]; rfl
  rw [hfin] at hs1
  have him := h.im i hin hni
  have hbig := h.big
  have hgo : ∀ o, (X.f c).h.get (X.H.n + i) = some o → o = ob := fun o hg => by
    rcases Nat.lt_or_ge i c with hlt | hge
    · have := h.lay i s v ob hs ⟨hi, hk, hw, by rw [allocA_congr _ _ (gP_eq (ops := X.ops))]; exact ha⟩ hni hlt
      rw [hg] at this; cases this; rfl
    · rw [h.non i hge hin] at hg; cases hg
  obtain ⟨hle, hrel⟩ := h.rel.early (b := X.H.n + i) (by omega) him hgo hl.obj
  have hadv := h.adv.early hX.hh0 (b := X.H.n + i) (by omega) him (O := O) (sz := sz)
  have hvr : VRel (upd μ (X.H.n + i) ⟨w.heap.size, 0, sz⟩) (X.val i) u := by rw [hv]; exact hl.val _ hle (upd_same _ _ _)
  refine ⟨upd μ (X.H.n + i) ⟨w.heap.size, 0, sz⟩, _, _, hs1, ?_⟩
  have hm : ∀ {j}, ReadyIn X.ops S j → ReadyIn X.ops (i :: S) j := fun hh o ho e he hb => List.mem_cons_of_mem _ (hh o ho e he hb)
  refine ⟨h.hc, fun j hj => ?_, fun j hj => ?_, fun j s' h1 h2 h3 => ?_, hrel, hadv, ?_, h.qr.mono hle, fun j h1 h2 => ?_, fun j s' v ob h1 h2 h3 h4 => h.lay j s' v ob h1 h2 (fun hh => h3 (List.mem_cons_of_mem _ hh)) h4, h.non, h.big, fun j s' v' ob' h1 h2 h3 h4 => ?_, hX.regs_put h.closed h.sz (h.regs.mono hle) hni hrd hs hvr, (put_size _ _ _).trans h.sz⟩
  · rcases List.mem_cons.1 hj with rfl | hj
    · exact hm hrd
    · exact hm (h.closed j hj)
  · rcases List.mem_cons.1 hj with rfl | hj
    · exact hi
    · exact h.sub j hj
  · have hji : j ≠ i := by intro e; subst e; rw [hs] at h1; cases h1; rw [hk] at h3; cases h3
    rw [List.mem_cons]
    simp only [hji, false_or]
    exact h.eff j s' h1 h2 h3
  · rw [put_defers]; exact h.dr.mono hle
  · have hji : j ≠ i := fun e => h2 (by simp [e])
    rw [upd_other _ _ (by omega)]
    exact h.im j h1 (fun hh => h2 (List.mem_cons_of_mem _ hh))
  · rcases List.mem_cons.1 h3 with e | h3
    · subst e
      rw [hs] at h1; cases h1
      have := h2.2.2.2
      rw [allocA_congr _ _ (gP_eq (ops := X.ops)), ha] at this
      cases this
      refine ⟨⟨w.heap.size, 0, sz⟩, O, upd_same _ _ _, World.heap_alloc_new _ _, fun μ' w' hl' hO => hl.obj μ' w' (hle.trans hl') hO, fun d j' hd hj => ?_⟩
      rw [upd_other _ _ hd] at hj
      have := (h.rel.lt d j' hj).2
      simp only; omega
    · exact (h.pend j s' v' ob' h1 h2 h3 h4).early h.rel him

theorem loc_ok (hX : DHyp X) {i : Nat} (hi : i ≤ X.N) : LocOK i (dloc (X.ops.toList.take i) 0 []) := fun t a ha => by
  obtain ⟨j, o, h1, rfl, _⟩ := (dloc_find X.ops.toList t i (by have := hX.hN; simp; omega)).1 a ha
  exact h1

/-- One operation, whichever comes next. -/
theorem Inv.step (hX : DHyp X) {S : List Nat} {c : Nat} {μ : Mu} {w : World} {a : Act} {cs : List Frame} (h : Inv X S c μ w a cs) {i : Nat} (hi : i < X.N) (hni : i ∉ S) (hrd : ReadyIn X.ops S i) (rest : List Nat) (k : List Item) :
    ∃ c' μ' w' a' cs', Steps X.P (lone (X.b.atR a (.inRegion X.ops (i :: rest) :: k)) cs w) (lone (X.b.atR a' (.inRegion X.ops rest :: k)) cs' w') ∧ Inv X (i :: S) c' μ' w' a' cs' := by
  obtain ⟨c, hn, h⟩ := h.norm hX _ _ rfl
  obtain ⟨s, hs, hsi, hso, _⟩ := hX.step_get (i := i) (by have := hX.hN; omega)
  have ht := hX.tr i s hi hs
  have hle := Nat.le_of_lt hi
  generalize hf : X.f (i + 1) = st at ht
  cases ht with
  | askip hk hw =>
    have hv := hX.val_at hi (v := .tup []) (by rw [hf])
    have hwf := dguard_ok hX h hle hni hrd hs _ hw
    have hstep := stepR_op_skip (P := X.P) (b := X.b) (a := a) (k := k) (cs := cs) (w := w) (ops := X.ops) (i := i) (rest := rest) (by simp [hso, hwf])
    rw [hso] at hstep
    have he : a.put ((some s.o).bind (·.dst)) undef = { tmps := (a.put s.o.dst undef).tmps, defers := a.defers } := put_eta a s.o.dst undef
    rw [he] at hstep
    refine ⟨c, μ, w, _, cs, .one hstep, h.moved hX hi hni hrd hs (fun v ob hal => ?_) (by rw [hv]; exact ⟨[], rfl, rfl⟩) h.rel (Adv.refl _ _ _) h.dr h.qr (.inl ⟨rfl, by rw [hk]; simp⟩)⟩
    have := hal.2.2.1
    rw [hw] at this; cases this
  | alloc hk hw ha =>
    rename_i v ob
    have hv := hX.val_at hi (v := v) (by rw [hf])
    obtain ⟨μ', w', a', h1, h2⟩ := h.lays hX hi hni hrd hs ⟨hi, hk, hw, by rw [← hsi]; rw [← hsi] at ha; exact ha⟩ hv rest k
    exact ⟨c, μ', w', a', cs, h1, h2⟩
  | pure hk he =>
    rename_i v d' q' h'
    have hv := hX.val_at hi (v := v) (by rw [hf])
    have hlk := h.looks hX hn hi hni hrd hs hk
    have hone := h.one hX hle hni hrd hs rest k
    -- what is looked up is the same
    have hgd : dguard X.P X.need X.ops X.r X.N (X.f X.N).env s = dguard X.P X.need X.ops X.r s.i (X.f i).env s := by
      unfold dguard guardAcc
      cases hgu : s.o.guard with
      | none => rfl
      | some p =>
        obtain ⟨j, bb⟩ := p
        simp only
        cases htt : (X.ops[j]?).bind (·.dst) with
        | none => rfl
        | some t =>
          simp only
          rw [hsi, hX.acc_at hle (by rw [(hX.step_of hs).2.2.2.1]; exact accOf_below (loc_ok hX hle) _)]
    have hgx : ∀ x, getAcc X.N (X.f X.N).env X.r (accOf X.P X.need s.loc x) = gOf X.P X.need X.r s (X.f i).env x := fun x => by
      unfold gOf
      rw [hsi, hX.acc_at hle (by rw [(hX.step_of hs).2.2.2.1]; exact accOf_below (loc_ok hX hle) _)]
    unfold looksOK at hlk
    rw [hgd] at hlk
    have hgf : (fun x => getAcc X.N (X.f X.N).env X.r (accOf X.P X.need s.loc x)) = gOf X.P X.need X.r s (X.f i).env := funext hgx
    rw [hgf] at hlk
    have hnal : ∀ v ob, ¬ AllocAt X i s v ob := fun v ob hal => by have := hal.2.1; rw [hk] at this; cases this
    have hne : kindOf X.P s.o.op ≠ .eff := by rw [hk]; simp
    unfold evOne at hone he
    cases hwd : wantedA (dguard X.P X.need X.ops X.r s.i (X.f i).env s) with
    | none => rw [hwd] at hlk; cases hlk
    | some bb =>
      rw [hwd] at hlk hone he
      cases bb with
      | false =>
        simp only at hone he
        cases he
        obtain ⟨μ', w', u, ds', cs', s1, s2, s3, s4, s5, s6⟩ := hone
        exact ⟨c, μ', w', _, cs', s1, h.moved hX hi hni hrd hs hnal (by rw [hv]; exact s2) s3 s4 s5 s6 (.inl ⟨rfl, hne⟩)⟩
      | true =>
        simp only at hlk hone
        split at hlk
        · rename_i v' hh' hev
          rw [hev] at hone
          simp only at hone
          have hvv := beq_eq _ _ hlk
          have hhh := pure_keeps hk hev
          rw [hhh] at hone
          obtain ⟨μ', w', u, ds', cs', s1, s2, s3, s4, s5, s6⟩ := hone
          exact ⟨c, μ', w', _, cs', s1, h.moved hX hi hni hrd hs hnal (by rw [← hvv]; exact s2) s3 s4 s5 s6 (.inl ⟨rfl, hne⟩)⟩
        · cases hlk
  | eff hk ho he =>
    rename_i v d' q' h'
    have hv := hX.val_at hi (v := v) (by rw [hf])
    have hic := h.at_eff hX hn hle hni hrd hs hk ho
    have hone := h.one hX hle hni hrd hs rest k
    have hnal : ∀ v ob, ¬ AllocAt X i s v ob := fun v ob hal => by have := hal.2.1; rw [hk] at this; cases this
    rw [← hic, he] at hone
    obtain ⟨μ', w', u, ds', cs', s1, s2, s3, s4, s5, s6⟩ := hone
    have e1 : (X.f (c + 1)).h = h' := by rw [← hic, hf]
    have e2 : (X.f (c + 1)).d = d' := by rw [← hic, hf]
    have e3 : (X.f (c + 1)).q = q' := by rw [← hic, hf]
    exact ⟨c + 1, μ', w', _, cs', s1, h.moved hX hi hni hrd hs hnal (by rw [hv]; exact s2) (by rw [e1]; exact s3) (by rw [e1, ← hic]; exact s4) (by rw [e2]; exact s5) (by rw [e3]; exact s6) (.inr ⟨rfl, hic⟩)⟩
end
end AEv

/-
  THE ABSTRACT EVALUATOR: regions whose order is drawn: the law; a run of the evaluator is a run of the program.
-/
namespace AEv
open Go

section
variable {X : DD}

/-- What a whole order comes to. -/
def DD.ends (X : DD) (k : List Item) (m0 : Machine) (res : RRes) : Prop := RAll X.P X.need X.nt X.μ0 X.r X.H X.w0 X.b k X.cs0 m0 (dloc X.ops.toList 0 []) res
theorem DD.ends_pre {k : List Item} {m0 m1 : Machine} {res : RRes} (h : Steps X.P m0 m1) (h' : X.ends k m1 res) : X.ends k m0 res := by
  unfold DD.ends at *
  cases res with
  | ok env d q H' => obtain ⟨μ', w', a', cs', s1, s2⟩ := h'; exact ⟨μ', w', a', cs', h.trans s1, s2⟩
  | pan v d q H' => obtain ⟨μ', w', a', cs', u, kk, s1, s2⟩ := h'; exact ⟨μ', w', a', cs', u, kk, h.trans s1, s2⟩
  | fail s => trivial

/-- The result: the run's end, or its panic. -/
structure DEnd (X : DD) (res : RRes) : Prop where
  ok : X.N = X.ops.size → res = .ok (X.f X.N).env (X.f X.N).d (X.f X.N).q (X.f X.N).h
  pan : X.N < X.ops.size → ∀ s, X.steps[X.N]? = some s → ∃ v d' q' h', evOne X.P X.inR X.call (dguard X.P X.need X.ops X.r s.i (X.f X.N).env s) s.o (gOf X.P X.need X.r s (X.f X.N).env) (X.f X.N).d (X.f X.N).q (X.f X.N).h = .pan v d' q' h' ∧ res = .pan v d' q' h'

theorem Inv.order (hX : DHyp X) {res : RRes} (hE : DEnd X res) (k : List Item) : ∀ (L : List Nat) (S : List Nat) (c : Nat) (μ : Mu) (w : World) (a : Act) (cs : List Frame), OrdFrom X.ops S L → Inv X S c μ w a cs → X.ends k (lone (X.b.atR a (.inRegion X.ops L :: k)) cs w) res
  | [], S, c, μ, w, a, cs, ho, h => by
    have hall : ∀ i, i < X.ops.size → i ∈ S := ho
    have hN : X.N = X.ops.size := by
      have := hX.hN
      rcases Nat.lt_or_ge X.N X.ops.size with hlt | hge
      · have := h.sub _ (hall _ hlt); omega
      · omega
    obtain ⟨c, hn, h⟩ := h.norm hX _ _ rfl
    have hcN : c = X.N := by
      rcases hn with e | ⟨s, q1, q2⟩
      · exact e
      · have := h.hc
        rcases Nat.lt_or_ge c X.N with hlt | hge
        · have := (h.eff c s q1 hlt q2).1 (hall c (by omega)); omega
        · omega
    subst hcN
    rw [hE.ok hN]
    have hlen := hX.env_len X.N (Nat.le_refl _)
    have hfull : X.ops.toList.take X.N = X.ops.toList := by rw [hN]; exact List.take_of_length_le (by simp)
    have hloc := loc_ok hX (Nat.le_refl X.N)
    rw [hfull] at hloc
    refine ⟨μ, w, a, cs, .one stepR_region_end, ⟨by rw [hlen]; exact hloc, fun t => ?_⟩, h.sz, h.rel, h.adv, h.dr, h.qr⟩
    rw [hlen]
    obtain ⟨f1, f2⟩ := dloc_find X.ops.toList t X.N (by simp; omega)
    rw [hfull] at f1 f2
    simp only [accOf]
    cases hf : findLoc t (dloc X.ops.toList 0 []) with
    | some ac =>
      obtain ⟨j, o, hj, rfl, hjo, hd, hlast⟩ := f1 ac hf
      have := (h.regs t).1 j o (hall j (by omega)) (by simpa using hjo) hd fun k o' hk ho' hkd => by
        rcases Nat.lt_or_ge j k with hlt | hge
        · exact absurd hkd (hlast k o' hlt (h.sub k hk) (by simpa using ho'))
        · exact hge
      exact this
    | none =>
      simp only []
      cases hb : Nat.testBit X.need t with
      | false => trivial
      | true =>
        exact (h.regs t).2 (fun j o hj ho' hd => f2 hf j o (h.sub j hj) (by simpa using ho') hd) hb
  | i :: L, S, c, μ, w, a, cs, ho, h => by
    obtain ⟨hi, hni, hrd, hrest⟩ := ho
    rcases Nat.lt_trichotomy i X.N with hlt | heq | hgt
    · obtain ⟨c', μ', w', a', cs', h1, h2⟩ := h.step hX hlt hni hrd L k
      exact DD.ends_pre h1 (Inv.order hX hE k L (i :: S) c' μ' w' a' cs' hrest h2)
    · -- the panic
      obtain ⟨s, hs, hsi, hso, _⟩ := hX.step_get hi
      obtain ⟨c, hn, h⟩ := h.norm hX _ _ rfl
      rw [heq] at hs
      obtain ⟨l1, l2, l3⟩ := hX.last s hs
      rw [← heq] at hs l2
      have hic := h.at_eff hX hn (Nat.le_of_eq heq) hni hrd hs l1 l2
      have hone := h.one hX (Nat.le_of_eq heq) hni hrd hs L k
      obtain ⟨v, d', q', h', e1, e2⟩ := hE.pan (by omega) s (by rw [← heq]; exact hs)
      rw [← heq] at e1
      rw [← hic, e1] at hone
      rw [e2]
      obtain ⟨μ', w', u, s1, s2, s3, s4, s5, s6⟩ := hone
      rw [hic] at s4
      refine ⟨μ', w', a, cs, u, _, s1, trivial, s2, fun t ht hb => ?_, h.sz, s3, Adv.trans hX.hh0 h.rel h.adv s4, s5, s6⟩
      obtain ⟨f1, f2⟩ := dloc_find X.ops.toList t X.ops.toList.length (Nat.le_refl _)
      rw [List.take_length] at f2
      have := (h.regs t).2 (fun j o hj ho' hd => f2 ht j o (by have := h.sub j hj; have := hX.hN; simp; omega) (by simpa using ho') hd) hb
      exact this.mono s4.le
    · exfalso
      obtain ⟨s, hs, _⟩ := hX.step_get (i := X.N) (by omega)
      obtain ⟨s', hs', _, _, _, hsound⟩ := hX.step_get hi
      have := (hX.last s hs).2.2 i s' hgt hs'
      rw [(hX.step_of hs).2.1] at this
      have := h.sub _ (hsound S h.closed hrd _ this)
      omega
end

section
variable {P : Program}

theorem looksAll_spec {need : Nat} {ops : Array Oper} {r : Tr} {n : Nat} {env : List AV} {last : Option Nat} {h : AHeap} {sts : List (Nat × Nat × AHeap)} : ∀ {l : List DStep}, looksAll P need ops r n env last h sts l = true → ∀ s ∈ l, s.i < n → kindOf P s.o.op = .pure → statesOK P need ops r n env s ((nth (n - 1 - s.i) env).getD .bad) last h sts = true
  | [], _, s, hs, _, _ => by cases hs
  | x :: l, hl, s, hs, hi, hk => by
    simp only [looksAll, Bool.and_eq_true] at hl
    rcases List.mem_cons.1 hs with rfl | hs
    · have h1 := hl.1
      have hb : Nat.blt s.i n = true := by simpa using hi
      rw [hb, hk] at h1
      exact h1
    · exact looksAll_spec hl.2 s hs hi hk

theorem drawSpec (hm : P.follows .mixedOrders = true) {call : CallT → List AV → AHeap → FRes} (hc : CallOK P call) (need nt : Nat) : DrawSpec P need nt call := by
  intro ops id hops hdr b inR r d q H μ w a k cs0 cs hin hr hsz hh hg hd hq
  unfold evDraw
  simp only
  obtain ⟨st0, hst0⟩ : ∃ st0 : DSt, st0 = ⟨[], d, q, ⟨H.t, H.n + ops.size⟩, []⟩ := ⟨_, rfl⟩
  obtain ⟨res, hres⟩ : ∃ res, evD P need inR call ops r H.n (dplan ops.toList 0 [] []) [] d q ⟨H.t, H.n + ops.size⟩ [] = res := ⟨_, rfl⟩
  rw [hres]
  by_cases hfail : ∃ wy, res = .fail wy
  · obtain ⟨wy, e⟩ := hfail; subst e; trivial
  have hnf : ∀ wy, res ≠ .fail wy := fun wy e => hfail ⟨wy, e⟩
  have hres' : evD P need inR call ops r H.n (dplan ops.toList 0 [] []) st0.env st0.d st0.q st0.h st0.sts = res := by rw [hst0]; exact hres
  obtain ⟨f, N, f0, hN, htr, hcase⟩ := evD_trace _ _ _ hres' hnf
  have hlen : (dplan ops.toList 0 [] []).length = ops.size := by rw [dplan_len]; simp
  rw [hlen] at hN
  have henv : ∀ m, m ≤ N → (f m).env.length = m := fun m => by
    induction m with
    | zero => intro _; rw [f0, hst0]; rfl
    | succ m ih =>
      intro hm'
      have hs : (dplan ops.toList 0 [] [])[m]? = some (dplan ops.toList 0 [] [])[m] := List.getElem?_eq_getElem (by omega)
      have ht := htr m _ (by omega) hs
      have ih' := ih (by omega)
      generalize f (m + 1) = st at ht
      cases ht <;> simp [ih']
  -- the region
  let X : DD := { P := P, need := need, nt := nt, inR := inR, call := call, ops := ops, r := r, b := b, μ0 := μ, H := H, w0 := w, cs0 := cs0, N := N, f := f }
  let w1 : World := { w with drawn := w.drawn + 1 }
  have hback : ∀ o i, ops[i]? = some o → edgesBack o i = true := fun o i ho => by
    have hi : i < ops.size := (Array.getElem?_eq_some_iff.1 ho).1
    have ho' : ops.toList[i]? = some o := by simpa using ho
    obtain ⟨s, h1, h2, h3, _⟩ := dplan_get (ops := ops) ops.toList 0 [] [] (fun k => by simp) (drawOK_back hdr) (fun j hj => by omega) i o ho'
    have := drawOK_back hdr s (List.mem_of_getElem? h1)
    rw [h3] at this
    have hi2 : s.i = i := by omega
    rw [hi2] at this; exact this
  have hord := ord_all hback (w.tape w.drawn (.order b.fn id))
  have hrun : Steps P (lone (b.atR a (.code (.region id ops true) :: k)) cs w) (lone (b.atR a (.inRegion ops (Region.schedule true ops (w.tape w.drawn (.order b.fn id))) :: k)) cs w1) := by
    have := stepR_region_draw (P := P) (b := b) (a := a) (k := k) (cs := cs) (w := w) (ops := ops) (id := id)
    rw [hm] at this
    exact .one this
  have hinv : Inv X [] 0 μ w1 a cs := by
    refine ⟨Nat.zero_le _, (fun j hj => by cases hj), (fun j hj => by cases hj), (fun i s h1 h2 h3 => ⟨fun hj => (by cases hj), fun hj => (by omega)⟩), ?_, ?_, ?_, ?_, fun i hi _ => ?_, (fun i s v ob h1 h2 h3 h4 => by omega), fun i hi h2 => ?_, ?_, (fun i s v ob h1 h2 h3 h4 => by cases h3), ?_, hsz⟩
    · show HRel μ (f 0).h w1
      rw [f0, hst0]
      exact ⟨fun bb o i hb hi => (hh.rel bb o i hb hi).mono (Le.refl μ) rfl, hh.inj, fun bb i hi => ⟨Nat.lt_of_lt_of_le (hh.lt bb i hi).1 (Nat.le_add_right _ _), (hh.lt bb i hi).2⟩, fun bb hb => hh.bound bb (Nat.le_trans (Nat.le_add_right _ _) hb)⟩
    · show Adv μ H w μ (f 0).h w1
      rw [f0, hst0]
      exact ⟨Le.refl μ, Nat.le_refl _, Nat.le_add_right _ _, fun _ _ hl => hl, fun _ _ _ => rfl, fun _ _ _ => rfl, (fun bb i h1 h2 => by rw [h1] at h2; cases h2), fun _ _ _ hb _ _ => ⟨hb, rfl⟩, rfl, rfl, rfl, Nat.le_succ _⟩
    · show DRels μ (f 0).d a.defers
      rw [f0, hst0]; exact hd
    · show QRel μ b.kind cs0 (f 0).q cs
      rw [f0, hst0]; exact hq
    · show μ (H.n + i) = none
      cases e : μ (H.n + i) with
      | none => rfl
      | some im => have := (hh.lt _ im e).1; omega
    · show (f 0).h.get (H.n + i) = none
      rw [f0, hst0]
      exact hh.bound (H.n + i) (Nat.le_add_right _ _)
    · show H.n + ops.size ≤ (f 0).h.n
      rw [f0, hst0]; exact Nat.le_refl _
    · intro t
      exact ⟨fun j o hj => (by cases hj), fun _ hb => hr t hb⟩
  have hbase : ∀ (nx : Option Nat) (hlk : looksAll P need ops r (f N).env.length (f N).env nx (f N).h (f N).sts (dplan ops.toList 0 [] []) = true) (hnx : ∀ e, nx = some e → e = N ∧ N < ops.size)
      (hlast : ∀ s, (dplan ops.toList 0 [] [])[N]? = some s → kindOf P s.o.op = .eff ∧ (∀ e m h0 l, (f N).sts = (e, m, h0) :: l → Nat.testBit s.bef e = true) ∧ ∀ k s', N < k → (dplan ops.toList 0 [] [])[k]? = some s' → Nat.testBit s'.bef s.i = true), DHyp X := by
    intro nx hlk hnx hlast
    refine ⟨hc, hin, hops, hdr, hN, htr, by show (f 0).env = []; rw [f0, hst0], by show (f 0).sts = []; rw [f0, hst0], fun i s hi hs hk => ?_, hlast, hg, hh⟩
    have hsi : s.i = i := by
      have hio : i < ops.size := Nat.lt_of_lt_of_le hi hN
      obtain ⟨s', h1, h2, _⟩ := dplan_get (ops := ops) ops.toList 0 [] [] (fun k => by simp) (drawOK_back hdr) (fun j hj => by omega) i _ (show ops.toList[i]? = some ops[i] by simp [hio])
      have hs2 : (dplan ops.toList 0 [] [])[i]? = some s := hs
      rw [h1] at hs2; cases hs2; omega
    have := looksAll_spec hlk s (List.mem_of_getElem? hs) (by rw [henv N (Nat.le_refl _), hsi]; exact hi) hk
    rw [henv N (Nat.le_refl _), hsi] at this
    exact ⟨nx, this, hnx⟩
  rcases hcase with ⟨hNn, hx⟩ | ⟨s, hs, hk, ho, hafter, v, d', q', h', he, hx⟩
  · subst hx
    simp only
    cases hlk : looksAll P need ops r (f N).env.length (f N).env none (f N).h (f N).sts (dplan ops.toList 0 [] []) with
    | false => trivial
    | true =>
      simp only
      have hX := hbase none hlk (fun e he => by cases he) (fun s hs => by rw [List.getElem?_eq_none (by omega)] at hs; cases hs)
      have hE : DEnd X (.ok (f N).env (f N).d (f N).q (f N).h) := ⟨fun _ => rfl, fun hlt => by
        have hlt' : N < ops.size := hlt
        omega⟩
      exact DD.ends_pre (X := X) hrun (Inv.order hX hE k _ [] 0 μ w1 a cs hord hinv)
  · subst hx
    simp only
    have hsi : s.i = N := by
      have hio : N < ops.size := by have := (List.getElem?_eq_some_iff.1 hs).1; omega
      obtain ⟨s', h1, h2, _⟩ := dplan_get (ops := ops) ops.toList 0 [] [] (fun k => by simp) (drawOK_back hdr) (fun j hj => by omega) N _ (show ops.toList[N]? = some ops[N] by simp [hio])
      rw [h1] at hs; cases hs; omega
    have hNlt : N < ops.size := by have := (List.getElem?_eq_some_iff.1 hs).1; omega
    cases hlk : looksAll P need ops r (f N).env.length (f N).env (some s.i) (f N).h (f N).sts (dplan ops.toList 0 [] []) with
    | false => trivial
    | true =>
      simp only
      have hX := hbase (some s.i) hlk (fun e he => by cases he; exact ⟨hsi, hNlt⟩) (fun s' hs' => by rw [hs] at hs'; cases hs'; exact ⟨hk, ho, hafter⟩)
      have hE : DEnd X (.pan v d' q' h') := ⟨fun e => by
        have e' : N = ops.size := e
        omega, fun _ s' hs' => by
        have hs2 : (dplan ops.toList 0 [] [])[N]? = some s' := hs'
        rw [hs] at hs2; cases hs2
        exact ⟨v, d', q', h', he, rfl⟩⟩
      exact DD.ends_pre (X := X) hrun (Inv.order hX hE k _ [] 0 μ w1 a cs hord hinv)

/-- What is asked of a program: closed facts, by the kernel. -/
structure Fit (P : Program) : Prop where
  mixed : P.follows .mixedOrders = true
  code : OKProg P
  ext : ExtOK P

/-- A RUN OF THE EVALUATOR IS A RUN OF THE PROGRAM. -/
theorem run_ok (hf : Fit P) {intr : Nat → List AV → AHeap → Option (AV × AHeap)} (hi : IntrOK P intr) (n : Nat) : CallOK P (callN P intr n) :=
  callN_ok hi (fun call hc need nt => drawSpec hf.mixed hc need nt) hf.code hf.ext n
end
end AEv

/-
  THE ABSTRACT EVALUATOR: from a run of the evaluator to a call's contract; what a row's claim asks.
-/
namespace AEv
open Go Go.RowKit Go.ChangeShapes Go.WideShapes

section
variable {P : Program}

-- closed facts

def codeOKB (P : Program) : Bool := P.funcs.toList.all fun fn => match fn.body with
  | some c => okCode fn.ntmps c && !(fn.name == "runtime.NumGoroutine")
  | none => true
def extOKB (P : Program) : Bool := P.funcs.toList.all fun fn => match fn.body with
  | some _ => true
  | none => !extNames.contains fn.name || (Extern.findNext fn).isNone
theorem mem_funcs {g : FuncId} {gn : Func} (h : P.funcs[g]? = some gn) : gn ∈ P.funcs.toList := by
  rw [← Array.getElem?_toList] at h; exact List.mem_of_getElem? h
theorem fit_of (hm : P.follows .mixedOrders = true) (hc : codeOKB P = true) (he : extOKB P = true) : Fit P where
  mixed := hm
  code := fun g gn gc hg hb => by
    have := List.all_eq_true.1 hc gn (mem_funcs hg)
    rw [hb] at this
    simp only [Bool.and_eq_true, Bool.not_eq_true'] at this
    exact this
  ext := fun g gn hg hb hn => by
    have := List.all_eq_true.1 he gn (mem_funcs hg)
    rw [hb] at this
    simp only [Bool.or_eq_true, Bool.not_eq_true', List.contains_eq_mem, decide_eq_false_iff_not] at this
    rcases this with h | h
    · exact absurd hn h
    · simpa using h

-- what the world keeps

/-- What is in memory is not written: the call's own blocks, and nothing else. -/
def Roed (H : AHeap) : Prop := ∀ b o, H.get b = some o → o.isRo = true
theorem Adv.below {μ μ' : Mu} {H H' : AHeap} {W W' : World} (hr : Roed H) (hh : HRel μ H W) (h : Adv μ H W μ' H' W') : Below W.heap.size W W' := by
  refine ⟨h.os, h.tape, h.out, h.size, fun r hlt => ?_⟩
  by_cases he : ∃ b i, H.get b ≠ none ∧ μ b = some i ∧ i.blk = r
  · obtain ⟨b, i, h1, h2, rfl⟩ := he
    cases hg : H.get b with
    | none => exact absurd hg h1
    | some o => exact (h.ro b o i hg (hr b o hg) h2).2
  · exact h.old r hlt fun b i h1 h2 h3 => he ⟨b, i, h1, h2, h3⟩

-- the world at the start

def muG (G : Nat) : Mu := fun b => if b < G then some ⟨b, 0, 0⟩ else none
theorem start_rel {W : World} (hW : P.globals.size ≤ W.heap.size) : HRel (muG P.globals.size) (emptyHeap P.globals.size) W ∧ GRel P (muG P.globals.size) ∧ Roed (emptyHeap P.globals.size) := by
  have hn : ∀ b, (emptyHeap P.globals.size).get b = none := fun b => rfl
  refine ⟨⟨fun b o i h => (by rw [hn] at h; cases h), fun b c i j h => absurd (hn b) h, fun b i h => ?_, fun b _ => hn b⟩, fun g hg => ⟨⟨g, 0, 0⟩, by simp [muG, hg], rfl, rfl⟩, fun b o h => (by rw [hn] at h; cases h)⟩
  unfold muG at h
  split at h
  · rename_i hb; cases h; exact ⟨hb, Nat.lt_of_lt_of_le hb hW⟩
  · cases h

-- a call's contract

theorem calls_of_run (hf : Fit P) {intr : Nat → List AV → AHeap → Option (AV × AHeap)} (hi : IntrOK P intr) {n : Nat} {f : Nat} {fn : Func} {c : Code} (hfn : P.funcs[f]? = some fn) (hb : fn.body = some c) {args : List AV} {H : AHeap} {v : AV} {H' : AHeap}
    (hrun : callN P intr n (.fn f) args H = .ret v H') {μ : Mu} {W : World} {vs : List Value} (hh : HRel μ H W) (hg : GRel P μ) (hv : VRels μ args vs) :
    Calls P f ⟨vs⟩ W fun e W' => ∃ μ' u, e = .returned u ∧ VRel μ' v u ∧ HRel μ' H' W' ∧ Adv μ H W μ' H' W' := by
  have h1 := (run_ok hf hi n).fn f args H (by rw [hrun]; rfl) μ W vs hh hg hv
  rw [hrun] at h1
  obtain ⟨_, hnum⟩ := hf.code f fn c hfn hb
  have he := callFunc_enter hfn hb hnum ⟨vs⟩ W
  rcases h1 with ⟨v', w', q1, _⟩ | ⟨_, q2⟩
  · rw [he] at q1; cases q1
  · exact q2.mono fun e W' h => h
def okT : FRes → Bool
  | .ret (.bool true) _ => true
  | _ => false
theorem okT_spec {r : FRes} (h : okT r = true) : ∃ H, r = .ret (.bool true) H := by
  unfold okT at h
  split at h
  · exact ⟨_, rfl⟩
  · cases h
/-- A law that is true of the evaluator. -/
theorem law_of_run (hf : Fit P) {intr : Nat → List AV → AHeap → Option (AV × AHeap)} (hi : IntrOK P intr) {n : Nat} {f : Nat} {fn : Func} {c : Code} (hfn : P.funcs[f]? = some fn) (hb : fn.body = some c) {args : List AV} {H : AHeap}
    (hrun : okT (callN P intr n (.fn f) args H) = true) {μ : Mu} {W : World} {vs : List Value} (hh : HRel μ H W) (hr : Roed H) (hg : GRel P μ) (hv : VRels μ args vs) :
    Calls P f ⟨vs⟩ W fun e W' => e = .returned (.bool true) ∧ Below W.heap.size W W' := by
  obtain ⟨H', e⟩ := okT_spec hrun
  exact (calls_of_run hf hi hfn hb e hh hg hv).mono fun e W' ⟨μ', u, h1, h2, h3, h4⟩ => ⟨by cases h2; exact h1, h4.below hr hh⟩
def shapeB (P : Program) : Bool := match P.globals.size with
  | 0 => true
  | g + 1 => (((begin P (fun _ _ => 0) default).world.heap[g]?).bind Obj.row?).isSome
theorem globals_in {W : World} (hs : W.ShapedOpen P) (hb : shapeB P = true) : P.globals.size ≤ W.heap.size := by
  unfold shapeB at hb
  cases hg : P.globals.size with
  | zero => exact Nat.zero_le _
  | succ g =>
    rw [hg] at hb
    simp only at hb
    obtain ⟨⟨zero, t⟩, hx⟩ := Option.isSome_iff_exists.1 hb
    obtain ⟨cs, h1, _⟩ := hs.1 g zero t (by omega) hx
    have := (Array.getElem?_eq_some_iff.1 h1).1
    omega

variable {H : Type} {enc : TypeId × Value → H}

theorem trodAll_stays (hl : laidOutB P = true) {W W' : World} (hb : Below W.heap.size W W') {sp : Nat → Bool} : ∀ {ts : List TypeId} {vs : List Value} {ds : List (DataW H)} {ps : List MemPlace}, (∀ t ∈ ts, P.readableRec t = true ∧ t < P.types.size) →
    DataW.TrodAll enc P W 0 (fun _ => true) true ts vs ds ps → (∀ x ∈ ps, x.block < W.heap.size ∧ sp x.block = true) → DataW.TrodAll enc P W' 0 sp true ts vs ds ps
  | [], [], [], _, _, h, _ => h
  | _ :: _, _ :: _, _ :: _, _, hT, ⟨p, q, h1, h2, e⟩, hs =>
    ⟨p, q, WideElems.Trod_stays hl (hT _ (by simp)).1 (hT _ (by simp)).2 h1 (fun x hx => hb.same (hs x (by rw [e]; simp [hx])).1) (fun x hx => (hs x (by rw [e]; simp [hx])).2),
      trodAll_stays hl hb (fun t ht => hT t (by simp [ht])) h2 (fun x hx => hs x (by rw [e]; simp [hx])), e⟩

/-- A LAW's END: it has answered true, and what there was is as it was. -/
theorem post_law {f : Func} {s : ChangeSpec} {apart fresh handsOn again : Bool} {W W' : World} {args : Array Value} {ds gs : List (DataW H)} {before : List MemPlace} {bt : TypeId}
    (hl : laidOutB P = true) (hT : ∀ t ∈ f.params.toList, P.readableRec t = true ∧ t < P.types.size) (hres : f.resultTypes = #[bt]) (hbt : P.underlying bt = some .bool) (hvars : s.vars = [])
    (hW : DataW.Whole enc P f.params.toList s.vars apart W args.toList ds gs before) (hfn : s.fn H ds = { results := [.lit (.bool true)], args := ds }) (hb : Below W.heap.size W W') :
    s.post enc P f apart fresh handsOn again W args (.bool true) W' := by
  have hlt : ∀ p ∈ before, p.block < W.heap.size := fun p hp => hW.lt p hp
  have hW0 := hW
  obtain ⟨pa, pv, hA, hV, rfl, hz, hn⟩ := hW
  rw [hvars] at hV
  obtain ⟨rfl, rfl⟩ := trodVars_none hV
  have e : s.fn H (ds ++ []) = { results := [.lit (.bool true)], args := ds } := by rw [List.append_nil]; exact hfn
  have hargs : ∀ sp : Nat → Bool, (∀ p ∈ pa ++ [], sp p.block = true) → DataW.TrodAll enc P W' 0 sp true f.params.toList args.toList ds pa := fun sp hsp =>
    trodAll_stays hl hb hT hA (fun x hx => ⟨hlt x (by simp [hx]), hsp x (by simp [hx])⟩)
  have hone : ∀ (b : Nat) (sp : Nat → Bool) (hd : Bool), DataW.TrodAll enc P W' b sp hd f.resultTypes.toList ((Value.bool true).resultList f.resultTypes.size) [.lit (.bool true)] [] := fun b sp hd => by
    rw [hres]; exact trodAll_mk1 (shut_bool hbt true)
  refine ⟨ds, [], pa ++ [], [], pa, [], hW0, ?_, ?_, ?_, World.keptBut_mono (fun p hp => ⟨hp, ?_⟩) (hb.frame (· ∈ pa ++ [])), fun _ => ?_⟩
  · rw [e]; exact hone _ _ _
  · rw [e]; exact hargs _ fun p hp => by simpa using hlt p hp
  · rw [e, hvars]; rfl
  · exact Or.inr (by simpa using hp)
  · refine ⟨ok_one hres rfl (okWide_bool_mk hbt true), _, _, ([] ++ pa) ++ [], ⟨[] ++ pa, [], trodAll_append (hargs _ (fun _ _ => rfl)) (hone _ _ _), show DataW.TrodVars enc P W' (fun _ => true) s.vars [] [] from by rw [hvars]; rfl, rfl, ?_, ?_⟩, ?_⟩
    · intro b off hp
      have hin : MemPlace.cell b off ∈ pa ++ [] := by simpa using hp
      rw [hb.frozen (hlt _ hin)]
      exact hz b off hin
    · intro ha
      simpa using hn ha
    · intro p hp _
      simpa using hp

theorem handed_both {a : Assume} {C : Checked} {os : Os} {f : FuncId} {fn : Func} {s : ChangeSpec} {conds : List PathCond} {apart fresh handsOn again : Bool} {X : World → Array Value → Prop}
    (hX : ∀ (w w' : World) (args : Array Value), w.heap = w'.heap → X w args → X w' args)
    (own : ownKnob C.prog.godebug = none) (started : os.Started) (noInit : C.prog.inits.idxOf? f = none) (hfn : C.prog.funcs[f]? = some fn)
    (witness : ∃ (w : World) (tape : Tape) (i : Input), w.os = os ∧ (w.forCall tape i).Shaped C.prog ∧ i.vars = [] ∧ Input.okWide C.prog (w.forCall tape i) .any w.heap.size f i ∧
      ((s.pre enc C.prog fn conds apart (w.forCall tape i).memory i.args ∧ X (w.forCall tape i).memory i.args) ∧ sizedMet enc C.prog fn (OpenSpec.ofChange s) apart (w.forCall tape i).memory i.args) ∧ a.holds C.prog (lone (Frame.enter C.prog f i.args .normal) [] (w.forCall tape i)))
    (contract : ∀ (W : World) (base : Nat) (args : Array Value) (ds gs : List (DataW H)) (before : List MemPlace),
      (∀ (j : Nat) t v, fn.params[j]? = some t → args[j]? = some v → Value.okWide C.prog W .any base t v) →
      DataW.Whole enc C.prog fn.params.toList s.vars apart W args.toList ds gs before →
      (DataW.weightsEach C.prog (fn.params.toList ++ s.plain.varTypes C.prog) (ds ++ gs)).all (· ≤ reachBytes) = true → X W args → W.ShapedOpen C.prog →
      Calls C.prog f args W fun e W' => ∃ v, e = .returned v ∧ s.post enc C.prog fn apart fresh handsOn again W args v W') :
    ReturnsInHanded a C os f .any (fun w args => (s.pre enc C.prog fn conds apart w args ∧ X w args) ∧ sizedMet enc C.prog fn (OpenSpec.ofChange s) apart w args) (s.post enc C.prog fn apart fresh handsOn again) := by
  refine returnsInHanded_of_calls own started noInit witness ?_
  intro w tape i _ hsh _ hok hpre hholds
  obtain ⟨_, _, _, fn', hfn', _, _, _, _, hval⟩ := hok
  have e : fn' = fn := Option.some.inj (hfn'.symm.trans hfn)
  subst e
  obtain ⟨⟨⟨ds, gs, before, hw, hc⟩, hx⟩, hz⟩ := hpre
  have hw' := DataW.Whole.of_heap (w' := w.forCall tape i) (by rfl) hw
  refine (contract (w.forCall tape i) w.heap.size i.args ds gs before hval hw' (hz.weights hw) (hX _ _ _ (by rfl) hx) hsh).mono fun e W' ⟨v, he, hp⟩ => ?_
  subst he
  exact ChangeSpec.post_blind hp
end
end AEv

/-
  THE ABSTRACT EVALUATOR: calls whose arguments and result lead to no memory, reckoned once and told from a table.
-/
namespace AEv
open Go Go.RowKit

mutual
def refFree : AV → Bool
  | .bool _ => true
  | .int _ _ => true
  | .str _ => true
  | .nilP => true
  | .nilS => true
  | .nilM => true
  | .nilF => true
  | .nilI => true
  | .fn _ a b => refFrees a && refFrees b
  | .iface _ v => refFree v
  | .agg cs => refFrees cs
  | .tup vs => refFrees vs
  | _ => false
def refFrees : List AV → Bool
  | [] => true
  | v :: vs => refFree v && refFrees vs
end
mutual
theorem refFree_rel {μ μ' : Mu} : ∀ (a : AV) (v : Value), refFree a = true → VRel μ a v → VRel μ' a v
  | .bool _, v, _, h => h
  | .int _ _, v, _, h => h
  | .str _, v, _, h => h
  | .nilP, v, _, h => h
  | .nilS, v, _, h => h
  | .nilM, v, _, h => h
  | .nilF, v, _, h => h
  | .nilI, v, _, h => h
  | .fn f a b, v, hr, h => by
    simp only [refFree, Bool.and_eq_true] at hr
    obtain ⟨fs, cs, e, h1, h2⟩ := h
    exact ⟨fs, cs, e, refFrees_rel _ _ hr.1 h1, refFrees_rel _ _ hr.2 h2⟩
  | .iface t x, v, hr, h => by
    simp only [refFree] at hr
    obtain ⟨y, e, h1⟩ := h
    exact ⟨y, e, refFree_rel _ _ hr h1⟩
  | .agg cs, v, hr, h => by
    simp only [refFree] at hr
    obtain ⟨l, e, h1⟩ := h
    exact ⟨l, e, refFrees_rel _ _ hr h1⟩
  | .tup cs, v, hr, h => by
    simp only [refFree] at hr
    obtain ⟨l, e, h1⟩ := h
    exact ⟨l, e, refFrees_rel _ _ hr h1⟩
  | .bad, v, hr, h => by simp [refFree] at hr
  | .ptr _ _, v, hr, h => by simp [refFree] at hr
  | .slice _ _ _ _, v, hr, h => by simp [refFree] at hr
  | .map _, v, hr, h => by simp [refFree] at hr
  | .yld _, v, hr, h => by simp [refFree] at hr
theorem refFrees_rel {μ μ' : Mu} : ∀ (as : List AV) (vs : List Value), refFrees as = true → VRels μ as vs → VRels μ' as vs
  | [], vs, _, h => h
  | a :: as, vs, hr, h => by
    simp only [refFrees, Bool.and_eq_true] at hr
    obtain ⟨v, vs', e, h1, h2⟩ := h
    exact ⟨v, vs', e, refFree_rel a v hr.1 h1, refFrees_rel as vs' hr.2 h2⟩
end

structure Ent where
  f : Nat
  args : List AV
  v : AV
def tabIntr : List Ent → Nat → List AV → AHeap → Option (AV × AHeap)
  | [], _, _, _ => none
  | e :: T, f, args, h => match Nat.beq f e.f with
    | true => match AV.beqs args e.args with
      | true => some (e.v, h)
      | false => tabIntr T f args h
    | false => tabIntr T f args h
theorem tab_mem : ∀ (T : List Ent) (f : Nat) (args : List AV) (h : AHeap) (v : AV) (h' : AHeap), tabIntr T f args h = some (v, h') → h' = h ∧ ∃ e ∈ T, e.f = f ∧ e.args = args ∧ e.v = v
  | [], f, args, h, v, h', hx => by cases hx
  | e :: T, f, args, h, v, h', hx => by
    simp only [tabIntr] at hx
    have rest : tabIntr T f args h = some (v, h') → h' = h ∧ ∃ e' ∈ e :: T, e'.f = f ∧ e'.args = args ∧ e'.v = v := fun hx => by
      obtain ⟨h1, e', h2, h3⟩ := tab_mem T f args h v h' hx
      exact ⟨h1, e', List.mem_cons_of_mem _ h2, h3⟩
    split at hx
    · rename_i hf
      split at hx
      · rename_i ha
        cases hx
        exact ⟨rfl, e, by simp, (Nat.eq_of_beq_eq_true hf).symm, (beqs_eq _ _ ha).symm, rfl⟩
      · exact rest hx
    · exact rest hx

section
variable {P : Program}

/-- The evaluator's own word on an entry. -/
def entB (P : Program) (intr : Nat → List AV → AHeap → Option (AV × AHeap)) (n : Nat) (e : Ent) : Bool :=
  match callN P intr n (.fn e.f) e.args (emptyHeap P.globals.size) with
  | .ret v _ => AV.beq v e.v && refFree e.v && refFrees e.args
  | _ => false
def EntOK (P : Program) (e : Ent) : Prop := ∃ (intr : Nat → List AV → AHeap → Option (AV × AHeap)) (n : Nat), IntrOK P intr ∧ entB P intr n e = true

theorem FnGoes.mono {f : FuncId} {vs : List Value} {w : World} {R R' : Ending → World → Prop} (h : ∀ e w', R e w' → R' e w') (hg : FnGoes P f vs w R) : FnGoes P f vs w R' := by
  rcases hg with ⟨v, w', h1, h2⟩ | ⟨h1, h2⟩
  · exact .inl ⟨v, w', h1, h _ _ h2⟩
  · exact .inr ⟨h1, h2.mono fun e w' he => h e w' he⟩

theorem tab_ok (hf : Fit P) {T : List Ent} (hT : ∀ e ∈ T, EntOK P e) : IntrOK P (tabIntr T) := by
  intro f args H v H' hx μ w vs hh hg hv
  obtain ⟨rfl, e, he, rfl, rfl, rfl⟩ := tab_mem T f args H v H' hx
  obtain ⟨intr, n, hi, hb⟩ := hT e he
  unfold entB at hb
  split at hb
  · rename_i v1 H1 hrun
    simp only [Bool.and_eq_true] at hb
    obtain ⟨⟨hb1, hb2⟩, hb3⟩ := hb
    have hv1 := beq_eq _ _ hb1
    subst hv1
    have hG : P.globals.size ≤ w.heap.size := by
      cases hsz : P.globals.size with
      | zero => exact Nat.zero_le _
      | succ g =>
        obtain ⟨i, h1, h2, h3⟩ := hg g (by omega)
        have := (hh.lt _ i h1).2
        omega
    obtain ⟨s1, s2, s3⟩ := start_rel (P := P) hG
    have hgo := (run_ok hf hi n).fn e.f e.args (emptyHeap P.globals.size) (by rw [hrun]; rfl) (muG P.globals.size) w vs s1 s2 (refFrees_rel _ _ hb3 hv)
    rw [hrun] at hgo
    refine hgo.mono fun en w' hen => ?_
    obtain ⟨μ', u, rfl, q1, q2, q3⟩ := hen
    have hold : ∀ r, r < w.heap.size → w'.heap[r]? = w.heap[r]? := fun r hr => q3.old r hr fun b i hl => absurd rfl hl
    refine ⟨μ, u, rfl, refFree_rel _ _ hb2 q1, ⟨fun b o i hb hi => (hh.rel b o i hb hi).mono (Le.refl μ) (hold _ (hh.lt b i hi).2), hh.inj, fun b i hi => ⟨(hh.lt b i hi).1, Nat.lt_of_lt_of_le (hh.lt b i hi).2 q3.size⟩, hh.bound⟩, ?_⟩
    exact ⟨Le.refl μ, q3.size, Nat.le_refl _, fun _ _ hl => hl, fun _ _ _ => rfl, fun r hr _ => hold r hr, (fun b i h1 h2 => by rw [h1] at h2; cases h2), fun b o i hb _ hi => ⟨hb, hold _ (hh.lt b i hi).2⟩, q3.os, q3.out, q3.tape, q3.drawn⟩
  · cases hb

end
end AEv

/-
  THE START of a call with a row among its arguments: the row is a block that is read alone.
-/
namespace AEv
open Go

/-! ### Rows among the arguments: one block each, read alone -/
def pushRo (h : AHeap) (r : List AV × Nat) : AHeap := h.push (.cells r.1 r.2 .ro 0 0)
theorem foldRo : ∀ (rows : List (List AV × Nat)) (h : AHeap), (∀ b, h.n ≤ b → h.get b = none) → (rows.foldl pushRo h).n = h.n + rows.length ∧ ∀ b, (rows.foldl pushRo h).get b = if b < h.n then h.get b else (rows[b - h.n]?).map fun r => .cells r.1 r.2 .ro 0 0
  | [], h, hb => ⟨rfl, fun b => by
    split
    · rfl
    · rename_i hn; simpa using hb b (by omega)⟩
  | r :: rows, h, hb => by
    have hn : (pushRo h r).n = h.n + 1 := rfl
    have hg : ∀ b, (pushRo h r).get b = if b = h.n then some (.cells r.1 r.2 .ro 0 0) else h.get b := fun b => AHeap.get_push _ _ _
    obtain ⟨q1, q2⟩ := foldRo rows (pushRo h r) fun b h1 => by rw [hg, if_neg (by omega)]; exact hb b (by omega)
    refine ⟨by rw [List.foldl_cons, q1, hn, List.length_cons]; omega, fun b => ?_⟩
    rw [List.foldl_cons, q2, hn, hg]
    by_cases h1 : b < h.n
    · rw [if_pos (by omega), if_neg (by omega), if_pos h1]
    · rw [if_neg h1]
      by_cases h2 : b = h.n
      · subst h2; rw [if_pos (by omega), if_pos rfl, Nat.sub_self]; rfl
      · rw [if_neg (by omega)]
        obtain ⟨k, rfl⟩ : ∃ k, b = h.n + (k + 1) := ⟨b - h.n - 1, by omega⟩
        have e1 : h.n + (k + 1) - (h.n + 1) = k := by omega
        have e2 : h.n + (k + 1) - h.n = k + 1 := by omega
        rw [e1, e2]; rfl
/-- Where a row lies. -/
def RowW (W : World) (i : Img) (cs : List AV) (el : Nat) : Prop := ∃ c fz, W.heap[i.blk]? = some (.cells c el fz) ∧ (∀ μ, CellsRel μ cs c i.base) ∧ i.base + i.size = c.size
end AEv

/-
  THE START of a call with structs and arrays among its arguments: their cells, each of its kind.
-/
namespace AEv
open Go

end AEv
