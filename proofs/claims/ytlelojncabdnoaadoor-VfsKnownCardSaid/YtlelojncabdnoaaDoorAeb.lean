/-
  THE ABSTRACT EVALUATOR (operations): a deterministic semantics of loaded code, and the proof that its runs are runs of the program in the model, whatever the tape draws. No condition.
-/
import Derived.Test.YtlelojncabdnoaaDoorAea
import Derived.ChangeKeysEq
import Derived.Laws.StructEq
import Derived.AtR
set_option linter.unusedVariables false
set_option linter.unusedSimpArgs false
/-
  THE ABSTRACT EVALUATOR: operations, fifth part: append, copy, clear, whole; conversions.
-/
namespace AEv
open Go

section
variable {P : Program} {μ : Mu} {H : AHeap} {w : World}

theorem loadCells_length {b off n : Nat} {cs : List AV} (h : loadCells H b off n = some cs) : cs.length = n := by
  unfold loadCells at h
  split at h
  · obtain ⟨h1, rfl⟩ := takeN_eq _ _ _ h
    simp; omega
  · cases h
theorem byteCells_length : ∀ l : List UInt8, (byteCells l).length = l.length
  | [] => rfl
  | _ :: l => by simp [byteCells, byteCells_length l]
theorem src_length {size n : Nat} {x : AV} {cs : List AV} (h : srcCells H size x = some (n, cs)) : cs.length = n * size := by
  cases x <;> simp only [srcCells] at h <;> try cases h
  · split at h <;> cases h
    rw [byteCells_length]; simp
  · simp
  · rename_i b off len cap
    cases cap with
    | dead =>
      simp only at h
      split at h
      · cases h; simp
      · cases h
    | exact c =>
      simp only at h
      split at h
      · rename_i cs' hl; cases h; exact loadCells_length hl
      · cases h
    | opn esz =>
      simp only at h
      split at h
      · rename_i cs' hl; cases h; exact loadCells_length hl
      · cases h

theorem append_ok (hh : HRel μ H w) {argTypes : Array TypeId} {ty sT : TypeId} (h0 : argTypes[0]? = some sT) {s x : AV} {sv xv : Value} (hs : VRel μ s sv) (hx : VRel μ x xv) {v : AV} {H' : AHeap}
    (h : appendA P H sT argTypes[1]? s x = some (v, H')) : ValOK P μ H w (Builtin.append_ argTypes ty #[sv, xv]) v H' := by
  unfold appendA at h
  split at h
  · rename_i e hu hso
    split at h
    · rename_i i z hi hz
      split at h
      · cases h
      · rename_i n cs hsrc
        obtain ⟨hl, us, hus, hrel⟩ := src_rel (P := P) hh hx hsrc
        -- a string is appended to bytes: each is one cell
        have hcl := src_length hsrc
        cases s <;> (try simp only at h) <;> try cases h
        · -- nil
          cases hs
          cases n with
          | zero =>
            cases h
            have := run_fits (P := P) (ty := ty) h0 rfl hu hso hi (base := none) (sLen := 0) (sCap := 0) hl hus (by omega)
            exact .same hh this rfl
          | succ n =>
            have hg : growA H e i.bytes i.size (0 + (n + 1)) z ([] ++ cs) 0 = some (v, H') := by simpa using h
            exact grow_ok hh h0 rfl hu hso hi hz hx hsrc (old := []) ⟨[], rfl, rfl⟩ (by simp) hcl (by omega) hh (Adv.refl _ _ _) hg
        · rename_i b off len cap
          obtain ⟨im, him, hc⟩ := hs
          cases cap with
          | dead => cases h
          | exact cap =>
            cases hc
            simp only at h
            split at h
            · rename_i hle
              have hle := Nat.le_of_ble_eq_true hle
              have hr := run_fits (P := P) (ty := ty) h0 rfl hu hso hi (base := some ⟨im.blk, im.base + off, none⟩) (sLen := len) (sCap := cap) hl hus hle
              simp only [add_plain] at hr
              split at h
              · cases h
                have hemp : us = [] := by
                  have h1 := hcl; have h2 := hrel.length
                  cases us with
                  | nil => rfl
                  | cons a l => simp at h1 h2; omega
                subst hemp
                refine .same hh (v' := .slice (some ⟨im.blk, im.base + off, none⟩) len cap) ?_ ⟨im, him, rfl⟩
                rw [hr]; simp [_root_.Go.storeCells]
              · split at h
                · rename_i h1 hst
                  cases h
                  obtain ⟨w', e1, e2, e3⟩ := storeCells_rel (P := P) hh him hrel hst
                  refine ⟨μ, w', .slice (some ⟨im.blk, im.base + off, none⟩) (len + n) cap, ?_, ⟨im, him, rfl⟩, e2, e3⟩
                  rw [hr, Nat.add_assoc, e1]; rfl
                · cases h
            · rename_i hle
              have hlt : cap < len + n := by
                rcases Nat.lt_or_ge cap (len + n) with h | h
                · exact h
                · rw [ble_of h] at hle; cases hle
              split at h
              · rename_i old hold
                obtain ⟨os, o1, o2⟩ := loadCells_rel (P := P) hh.drew him hold
                exact grow_ok hh h0 rfl hu hso hi hz hx hsrc (old := old) ⟨os, by simp only [Builtin.firstCells]; exact o1, o2⟩ (loadCells_length hold) hcl hlt hh (Adv.refl _ _ _) h
              · cases h
          | opn esz =>
            obtain ⟨cap, rfl, hlc, hsz⟩ := hc
            simp only at h
            split at h
            · rename_i hcond
              simp only [Bool.and_eq_true, Nat.blt_eq] at hcond
              have hesz := Nat.eq_of_beq_eq_true hcond.1
              subst hesz
              have hpos := hcond.2
              split at h
              · cases h
                have hr := run_fits (P := P) (ty := ty) h0 rfl hu hso hi (base := some ⟨im.blk, im.base + off, none⟩) (sLen := len) (sCap := cap) hl hus (by omega)
                simp only [add_plain] at hr
                have hemp : us = [] := by
                  have h1 := hcl; have h2 := hrel.length
                  cases us with
                  | nil => rfl
                  | cons a l => simp at h1 h2; omega
                subst hemp
                refine .same hh (v' := .slice (some ⟨im.blk, im.base + off, none⟩) len cap) ?_ ⟨im, him, cap, rfl, hlc, hsz⟩
                rw [hr]; simp [_root_.Go.storeCells]
              · split at h
                · rename_i old el lo hi' hb
                  have hobj := hh.rel b _ im hb him
                  obtain ⟨c, flo, fhi, q1, q2, q3, q4, q5⟩ := hobj
                  split at h
                  · rename_i hfit
                    have hfit := Nat.le_of_ble_eq_true hfit
                    split at h
                    · rename_i h1 hst
                      cases h
                      have hcap : len + n ≤ cap := by
                        have : (len + n) * i.size ≤ cap * i.size := by omega
                        exact Nat.le_of_mul_le_mul_right this hpos
                      have hr := run_fits (P := P) (ty := ty) h0 rfl hu hso hi (base := some ⟨im.blk, im.base + off, none⟩) (sLen := len) (sCap := cap) hl hus hcap
                      simp only [add_plain] at hr
                      obtain ⟨w', e1, e2, e3⟩ := storeCells_rel (P := P) hh him hrel hst
                      refine ⟨μ, w', .slice (some ⟨im.blk, im.base + off, none⟩) (len + n) cap, ?_, ⟨im, him, cap, rfl, hcap, hsz⟩, e2, e3⟩
                      rw [hr, Nat.add_assoc, e1]; rfl
                    · cases h
                  · split at h
                    · rename_i o hcnd hold
                      simp only [Bool.and_eq_true] at hcnd
                      obtain ⟨hhi, hel⟩ := hcnd
                      have hhi := Nat.le_of_ble_eq_true hhi
                      have hel := Nat.eq_of_beq_eq_true hel
                      subst hel
                      have hg := h
                      unfold growA at h
                      split at h
                      · rename_i hcnd2
                        simp only [Bool.and_eq_true] at hcnd2
                        obtain ⟨⟨hroom, hzl⟩, hall⟩ := hcnd2
                        cases h
                        have hol := loadCells_length hold
                        by_cases hfit : len + n ≤ cap
                        · -- in place
                          have hr := run_fits (P := P) (ty := ty) h0 rfl hu hso hi (base := some ⟨im.blk, im.base + off, none⟩) (sLen := len) (sCap := cap) hl hus hfit
                          simp only [add_plain] at hr
                          have hmul : (len + n) * i.size ≤ cap * i.size := Nat.mul_le_mul_right _ hfit
                          have hmul2 : (len + n) * i.size = len * i.size + n * i.size := Nat.add_mul _ _ _
                          have hul : us.length = n * i.size := by rw [← hrel.length]; exact hcl
                          obtain ⟨w', c', e1, e2, e3, e4, e5, e6, e7, e8, e9⟩ := run_storeCells P im.blk (im.base + (off + len * i.size)) us w 0 c el flo fhi q1
                            (hrel.oneCell fun a ha => cells_all hall a (List.mem_append_right _ ha)) (by omega) (fun j j1 j2 ⟨f1, f2⟩ => by
                              have := q5 (j - im.base) (by omega) (by omega) (by omega)
                              omega)
                          have A1 : im.base + off + (im.size - off) = c'.size := by rw [e8, ← q3, ← hsz]; omega
                          obtain ⟨r1, r2⟩ := hh.adopt (w' := w') (o' := .cells (o ++ cs) el .opn 0 (hi' - off)) hb rfl him e4 e3 e5 e6 e7.1 (im.base + off) (im.size - off) (hdr := Nat.le_of_eq e7.2.symm)
                            ⟨c', flo, fhi, e2, fun j a hj => by
                              show ∃ u, c'[im.base + off + j]? = some u ∧ _
                              rw [e9]
                              by_cases hjo : j < o.length
                              · rw [List.getElem?_append_left hjo] at hj
                                rw [if_neg (by omega)]
                                -- an old cell
                                unfold loadCells at hold
                                rw [hb] at hold
                                simp only at hold
                                rw [dropN_eq] at hold
                                obtain ⟨t1, rfl⟩ := takeN_eq _ _ _ hold
                                rw [List.getElem?_take] at hj
                                split at hj
                                · rw [List.getElem?_drop] at hj
                                  obtain ⟨u, hu1, hu2⟩ := q2 (off + j) a hj
                                  exact ⟨u, by rw [Nat.add_assoc]; exact hu1, hu2.mono (hh.le_upd _)⟩
                                · cases hj
                              · rw [List.getElem?_append_right (by omega)] at hj
                                have hjc : j - o.length < cs.length := by
                                  rcases Nat.lt_or_ge (j - o.length) cs.length with h | h
                                  · exact h
                                  · rw [List.getElem?_eq_none h] at hj; cases hj
                                have hcl2 := hrel.length
                                rw [if_pos (by omega)]
                                obtain ⟨u, hu1, hu2⟩ := hrel.get hj
                                refine ⟨u, ?_, hu2.mono (hh.le_upd _)⟩
                                rw [← hu1]
                                have A2 : im.base + off + j - (im.base + (off + len * i.size) + 0) = j - o.length := by rw [hol]; omega
                                rw [A2], A1, by
                              refine ⟨?_, fun j j1 j2 j3 => ?_⟩
                              · simp only [List.length_append]; have := hcl; omega
                              · have := q5 (off + j) (by simp only at j1; omega) (by simp only at j2; omega) (by simp only at j3; omega)
                                omega⟩
                          refine ⟨_, w', .slice (some ⟨im.blk, im.base + off, none⟩) (len + n) cap, ?_, ⟨_, upd_same _ _ _, cap, by simp, hfit, by simp only; omega⟩, r1, r2⟩
                          rw [hr, Nat.add_assoc, e1]; rfl
                        · -- it grows
                          obtain ⟨k1, k2⟩ := hh.kill hb rfl him
                          obtain ⟨os, o1, o2⟩ := loadCells_rel (P := P) hh.drew him hold
                          exact grow_ok (ty := ty) hh h0 rfl hu hso hi hz hx hsrc (old := o) ⟨os, by simp only [Builtin.firstCells]; exact o1, o2⟩ hol hcl (by omega) k1 k2 hg
                      · cases h
                    · cases h
                · cases h
            · cases h
    · cases h
  · cases h
end
end AEv

/-
  THE ABSTRACT EVALUATOR: operations, sixth part: copy, clear, len, cap, min, max; conversions; bytes of a string.
-/
namespace AEv
open Go

section
variable {P : Program} {μ : Mu} {H : AHeap} {w : World}

theorem VRels.take {μ : Mu} {as : List AV} {vs : List Value} (h : VRels μ as vs) (n : Nat) : VRels μ (as.take n) (vs.take n) := by
  refine VRels.of_get (by simp [h.length]) fun j a hj => ?_
  rw [List.getElem?_take] at hj ⊢
  split at hj
  · rename_i hl; rw [if_pos hl]; exact h.get hj
  · cases hj

/-- The first m elements of a source, where it has n. -/
theorem first_rel (hh : HRel μ H w) {size n m : Nat} {x : AV} {xv : Value} (hx : VRel μ x xv) {cs r : List AV} (h : srcCells H size x = some (n, cs)) (hm : m ≤ n) (hr : takeN (m * size) cs = some r) :
    ∃ us : List Value, (Builtin.firstCells size m xv).run P w = .ok ⟨us⟩ w ∧ VRels μ r us := by
  obtain ⟨ht, rfl⟩ := takeN_eq _ _ _ hr
  have hcl := src_length h
  cases x <;> simp only [srcCells] at h <;> try cases h
  · split at h <;> cases h
    obtain ⟨bs, rfl, rfl⟩ := hx
    refine ⟨_, ?_, (byteCells_rel μ _).take _⟩
    simp only [Builtin.firstCells, Sem.run_pure]
    congr 1
    apply Array.ext'
    simp [ByteArray.data_extract, List.map_take]
  · cases hx
    exact ⟨[], rfl, by simp; rfl⟩
  · rename_i b off len cap
    obtain ⟨i, hi, hc⟩ := hx
    have load : ∀ cs', loadCells H b off (len * size) = some cs' → n = len → cs = cs' → ∀ c, ∃ us : List Value, (Builtin.firstCells size m (.slice (some ⟨i.blk, i.base + off, none⟩) len c)).run P w = .ok ⟨us⟩ w ∧ VRels μ (cs.take (m * size)) us := by
      intro cs' hl hn hcs c
      subst hcs; subst hn
      have hsub : loadCells H b off (m * size) = some (cs.take (m * size)) := by
        unfold loadCells at hl ⊢
        split at hl
        · rename_i q1 q2 q3 q4 q5 hb
          obtain ⟨t1, t2⟩ := takeN_eq _ _ _ hl
          have hmul : m * size ≤ n * size := Nat.mul_le_mul_right _ hm
          have e : ∀ (k : Nat) (l : List AV), k ≤ l.length → takeN k l = some (l.take k) := by
            intro k
            induction k with
            | zero => intro l _; simp [takeN]
            | succ k ih =>
              intro l hl
              cases l with
              | nil => simp at hl
              | cons a l => simp [takeN, ih l (by simpa using hl)]
          rw [e _ _ (by omega), t2, List.take_take, Nat.min_eq_left hmul]
        · cases hl
      obtain ⟨us, h1, h2⟩ := loadCells_rel (P := P) hh hi hsub
      exact ⟨us, by simp only [Builtin.firstCells]; exact h1, h2⟩
    cases cap with
    | dead =>
      simp only at h
      split at h
      · cases h
        obtain ⟨_, a, c, rfl⟩ := hc
        have : m = 0 := by omega
        subst this
        exact ⟨[], by simp [Builtin.firstCells, _root_.Go.loadCells, loadCellsFrom], by simp; rfl⟩
      · cases h
    | exact c =>
      cases hc
      simp only at h
      split at h
      · rename_i cs' hl; cases h; exact load _ hl rfl rfl c
      · cases h
    | opn esz =>
      obtain ⟨c, rfl, _⟩ := hc
      simp only at h
      split at h
      · rename_i cs' hl; cases h; exact load _ hl rfl rfl c
      · cases h

theorem copy_ok (hh : HRel μ H w) {argTypes : Array TypeId} {ty dT : TypeId} (h0 : argTypes[0]? = some dT) {d s : AV} {dv sv : Value} (hd : VRel μ d dv) (hs : VRel μ s sv) {v : AV} {H' : AHeap}
    (h : copyA P H dT d s = some (v, H')) : ValOK P μ H w (Builtin.copy_ argTypes ty #[dv, sv]) v H' := by
  unfold copyA at h
  split at h
  · rename_i e hu
    split at h
    · rename_i sz hsz
      split at h
      · rename_i n cs hsrc
        obtain ⟨hl, _⟩ := src_rel (P := P) hh hs hsrc
        have hrs : ∀ w : World, (_root_.Go.sizeOf e).run P w = .ok sz w := fun w => run_sizeOf hsz
        have first0 : ∀ xv : Value, xv = sv → (Builtin.firstCells sz 0 sv).run P w = .ok #[] w := fun xv _ => by
          obtain ⟨us, h1, h2⟩ := first_rel (P := P) (m := 0) (r := []) hh hs hsrc (Nat.zero_le _) (by simp [takeN])
          cases us with
          | nil => exact h1
          | cons a l => cases h2
        split at h
        · cases h; cases hd
          refine .same hh (v' := .int .i64 0) ?_ rfl
          simp [Builtin.copy_, h0, run_und hu, hl, hrs, first0 sv rfl, goInt]
        · rename_i b off len cap
          simp only at h
          obtain ⟨i, hi, hc⟩ := hd
          have hsl : ∃ (a : Addr) (c : Nat), dv = .slice (some a) len c ∧ (cap ≠ .dead → a = ⟨i.blk, i.base + off, none⟩) := by
            cases cap with
            | exact c => cases hc; exact ⟨_, c, rfl, fun _ => rfl⟩
            | opn esz => obtain ⟨c, rfl, _⟩ := hc; exact ⟨_, c, rfl, fun _ => rfl⟩
            | dead => obtain ⟨rfl, a, c, rfl⟩ := hc; exact ⟨a, c, rfl, fun h => absurd rfl h⟩
          obtain ⟨a, c, rfl, ha⟩ := hsl
          split at h
          · rename_i hm0
            cases h
            refine .same hh (v' := .int .i64 0) ?_ rfl
            simp [Builtin.copy_, h0, run_und hu, hl, hrs, hm0, first0 sv rfl, goInt, _root_.Go.storeCells]
          · rename_i hm0
            split at h
            · rename_i cs' ht
              split at h
              · rename_i h1 hst
                cases h
                have hnd : cap ≠ .dead := by
                  intro e; subst e
                  obtain ⟨e1, _⟩ := hc
                  subst e1; simp [Nat.min_def] at hm0
                have := ha hnd
                subst this
                obtain ⟨us, q1, q2⟩ := first_rel (P := P) hh hs hsrc (Nat.min_le_left _ _) ht
                obtain ⟨w', e1, e2, e3⟩ := storeCells_rel (P := P) hh hi q2 hst
                refine ⟨μ, w', .int .i64 (Nat.min n len : Nat), ?_, rfl, e2, e3⟩
                simp [Builtin.copy_, h0, run_und hu, hl, hrs, q1, e1, goInt]
              · cases h
            · cases h
        · cases h
      · cases h
    · cases h
  · cases h

theorem clear_ok (hh : HRel μ H w) {argTypes : Array TypeId} {ty t : TypeId} (h0 : argTypes[0]? = some t) {x : AV} {xv : Value} (hx : VRel μ x xv) {v : AV} {H' : AHeap}
    (h : clearA P H t x = some (v, H')) : ValOK P μ H w (Builtin.clear_ argTypes ty #[xv]) v H' := by
  unfold clearA at h
  split at h
  · rename_i hu; cases h; cases hx
    exact .same hh (v' := .tuple #[]) (by simp [Builtin.clear_, h0, run_und hu]) ⟨[], rfl, rfl⟩
  · rename_i hu; cases h; cases hx
    exact .same hh (v' := .tuple #[]) (by simp [Builtin.clear_, h0, run_und hu]) ⟨[], rfl, rfl⟩
  · rename_i hu
    split at h
    · rename_i es c hg
      cases h
      obtain ⟨i, hi, rfl⟩ := hx
      obtain ⟨ents, e1, e2⟩ := hh.rel _ _ i hg hi
      have hlt : i.blk < w.heap.size := (hh.lt _ _ hi).2
      obtain ⟨r1, r2⟩ := hh.update (w' := { w with heap := w.heap.setIfInBounds i.blk (.map #[] c) }) (o' := .map [] c) hg rfl hi (by simp) (fun r hr => by simp [Array.getElem?_setIfInBounds]; intro e; exact absurd e.symm hr) rfl rfl rfl
        ⟨[], by simp [hlt], rfl⟩
      refine ⟨μ, _, .tuple #[], ?_, ⟨[], rfl, rfl⟩, r1, r2⟩
      simp [Builtin.clear_, h0, run_und hu, getObj, setObj, Sem.run, e1]
    · cases h
  · rename_i e b off n cap hu
    split at h
    · rename_i hn
      cases h
      subst hn
      obtain ⟨i, hi, hc⟩ := hx
      have : ∃ a c, xv = .slice (some a) 0 c := by
        cases cap with
        | exact c => cases hc; exact ⟨_, c, rfl⟩
        | opn esz => obtain ⟨c, rfl, _⟩ := hc; exact ⟨_, c, rfl⟩
        | dead => obtain ⟨_, a, c, rfl⟩ := hc; exact ⟨a, c, rfl⟩
      obtain ⟨a, c, rfl⟩ := this
      exact .same hh (v' := .tuple #[]) (by simp [Builtin.clear_, h0, run_und hu]) ⟨[], rfl, rfl⟩
    · rename_i hn
      split at h
      · rename_i z hz
        split at h
        · rename_i h1 hst
          cases h
          obtain ⟨zv, hzr, rfl, hb⟩ := run_zero (P := P) (w := w) hz
          have hzc := zeroCells_rel n ((absV_rel μ zv).cells hb)
          obtain ⟨i, hi, hc⟩ := hx
          have : ∃ c, xv = .slice (some ⟨i.blk, i.base + off, none⟩) n c := by
            cases cap with
            | exact c => cases hc; exact ⟨c, rfl⟩
            | opn esz => obtain ⟨c, rfl, _⟩ := hc; exact ⟨c, rfl⟩
            | dead => obtain ⟨h0, _⟩ := hc; exact absurd h0 hn
          obtain ⟨c, rfl⟩ := this
          obtain ⟨w', e1, e2, e3⟩ := storeCells_rel (P := P) hh hi hzc hst
          refine ⟨μ, w', .tuple #[], ?_, ⟨[], rfl, rfl⟩, e2, e3⟩
          cases n with
          | zero => exact absurd rfl hn
          | succ n => simp [Builtin.clear_, h0, run_und hu, hzr, e1]
        · cases h
      · cases h
  · cases h

theorem len_ok (hh : HRel μ H w) {argTypes : Array TypeId} {ty t : TypeId} (h0 : argTypes[0]? = some t) {x : AV} {xv : Value} (hx : VRel μ x xv) {v : AV} (h : lenA P H t x = some v) :
    ValOK P μ H w (Builtin.len_ argTypes ty #[xv]) v H := by
  unfold lenA at h
  split at h
  · rename_i s hu; cases h
    obtain ⟨bs, rfl, rfl⟩ := hx
    refine .same hh (v' := .int .i64 (bs.size : Int)) (by simp [Builtin.len_, h0, run_und hu, goInt]) ?_
    have : bs.data.toList.length = bs.size := Array.length_toList
    rw [this]; rfl
  · rename_i n e hu; cases h
    exact .same hh (v' := .int .i64 (n : Int)) (by simp [Builtin.len_, h0, run_und hu, goInt]) rfl
  · rename_i e b off n cap hu; cases h
    obtain ⟨i, hi, hc⟩ := hx
    have : ∃ a c, xv = .slice a n c := by
      cases cap with
      | exact c => cases hc; exact ⟨_, c, rfl⟩
      | opn esz => obtain ⟨c, rfl, _⟩ := hc; exact ⟨_, c, rfl⟩
      | dead => obtain ⟨rfl, a, c, rfl⟩ := hc; exact ⟨_, c, rfl⟩
    obtain ⟨a, c, rfl⟩ := this
    exact .same hh (v' := .int .i64 (n : Int)) (by simp [Builtin.len_, h0, run_und hu, goInt]) rfl
  · rename_i hu; cases h; cases hx
    exact .same hh (v' := .int .i64 0) (by simp [Builtin.len_, h0, run_und hu, goInt]) rfl
  · rename_i hu; cases h; cases hx
    exact .same hh (v' := .int .i64 0) (by simp [Builtin.len_, h0, run_und hu, goInt]) rfl
  · rename_i r hu
    split at h
    · rename_i es c hg
      cases h
      obtain ⟨i, hi, rfl⟩ := hx
      obtain ⟨ents, e1, e2⟩ := hh.rel _ _ i hg hi
      have hlen : es.length = ents.length := by
        clear e1 hg
        induction es generalizing ents with
        | nil => cases e2; rfl
        | cons e es ih => obtain ⟨m, ms, rfl, _, h2⟩ := e2; simp [ih ms h2]
      refine .same hh (v' := .int .i64 (ents.length : Int)) ?_ (by rw [hlen]; rfl)
      simp [Builtin.len_, h0, run_und hu, goInt, getObj, Sem.run, e1]
    · cases h
  · rename_i arr hu
    split at h
    · rename_i n e hu2; cases h
      exact .same hh (v' := .int .i64 (n : Int)) (by simp [Builtin.len_, h0, run_und hu, run_und hu2, goInt]) rfl
    · cases h
  · cases h
theorem cap_ok (hh : HRel μ H w) {argTypes : Array TypeId} {ty t : TypeId} (h0 : argTypes[0]? = some t) {x : AV} {xv : Value} (hx : VRel μ x xv) {v : AV} (h : capA P t x = some v) :
    ValOK P μ H w (Builtin.cap_ argTypes ty #[xv]) v H := by
  unfold capA at h
  split at h
  · rename_i n e hu; cases h
    exact .same hh (v' := .int .i64 (n : Int)) (by simp [Builtin.cap_, h0, run_und hu, goInt]) rfl
  · rename_i e b off n c hu; cases h
    obtain ⟨i, hi, hc⟩ := hx
    cases hc
    exact .same hh (v' := .int .i64 (c : Int)) (by simp [Builtin.cap_, h0, run_und hu, goInt]) rfl
  · rename_i hu; cases h; cases hx
    exact .same hh (v' := .int .i64 0) (by simp [Builtin.cap_, h0, run_und hu, goInt]) rfl
  · cases h

theorem fold_rel (f : AV → AV → Option AV) (F : Value → Value → Sem Value) (hf : ∀ x y z xv yv, f x y = some z → VRel μ x xv → VRel μ y yv → ∃ zv, (F xv yv).run P w = .ok zv w ∧ VRel μ z zv) :
    ∀ (l : List AV) (x : AV) (xv : Value) (lv : List Value) (z : AV), VRel μ x xv → VRels μ l lv → foldA f x l = some z → ∃ zv, (lv.foldlM F xv).run P w = .ok zv w ∧ VRel μ z zv
  | [], x, xv, lv, z, hx, hl, h => by
    cases hl; simp [foldA] at h; subst h
    exact ⟨xv, rfl, hx⟩
  | y :: l, x, xv, lv, z, hx, ⟨yv, lv', e, hy, hl⟩, h => by
    subst e
    simp only [foldA] at h
    split at h
    · rename_i u hu
      obtain ⟨uv, r1, r2⟩ := hf x y u xv yv hu hx hy
      obtain ⟨zv, s1, s2⟩ := fold_rel f F hf l u uv lv' z r2 hl h
      exact ⟨zv, by simp only [List.foldlM_cons, Sem.run_bind, r1, Result.andThen_ok, s1], s2⟩
    · cases h
theorem min2_rel {x y z : AV} {xv yv : Value} (h : minA x y = some z) (hx : VRel μ x xv) (hy : VRel μ y yv) : ∃ zv, (Builtin.min2 xv yv).run P w = .ok zv w ∧ VRel μ z zv := by
  unfold minA at h
  split at h
  · split at h
    · rename_i hk; cases h; subst hk
      cases hx; cases hy
      exact ⟨_, rfl, by simp [VRel, ltI]⟩
    · cases h
  · cases h
theorem max2_rel {x y z : AV} {xv yv : Value} (h : maxA x y = some z) (hx : VRel μ x xv) (hy : VRel μ y yv) : ∃ zv, (Builtin.max2 xv yv).run P w = .ok zv w ∧ VRel μ z zv := by
  unfold maxA at h
  split at h
  · split at h
    · rename_i hk; cases h; subst hk
      cases hx; cases hy
      exact ⟨_, rfl, by simp [VRel, ltI]⟩
    · cases h
  · cases h
end
end AEv

/-
  THE ABSTRACT EVALUATOR: operations, seventh part: conversions, equality, maps, ranges.
-/
namespace AEv
open Go

section
variable {P : Program} {μ : Mu} {H : AHeap} {w : World}

theorem cellBytes_rel : ∀ (cs : List AV) (bs : List UInt8) (us : List Value), cellBytes cs = some bs → VRels μ cs us → us = bs.map fun b => .int .u8 (b.toNat : Int)
  | [], bs, us, h, hr => by cases hr; simp [cellBytes] at h; subst h; rfl
  | c :: cs, bs, us, h, ⟨v, vs, e, h1, h2⟩ => by
    subst e
    unfold cellBytes at h
    split at h
    · rename_i heq; cases heq
    · rename_i n l heq
      cases heq
      split at h
      · rename_i r hn hr
        cases h
        cases h1
        rw [cellBytes_rel cs r vs hr h2]
        simp only [Nat.blt_eq] at hn
        have : n % 256 = n := Nat.mod_eq_of_lt hn
        simp [UInt8.toNat_ofNat', this]
      · cases h
    · cases h

theorem runs_bytes (w : World) : ∀ (bs : List UInt8) (acc : ByteArray), (forIn (bs.map fun b => Value.int .u8 (b.toNat : Int)) acc fun c s =>
      (match c with
      | .int .u8 n => pure (ForInStep.yield (s.push (UInt8.ofNat n.toNat)))
      | _ => do stuck "bytesToString: byte expected"; pure (ForInStep.yield s) : Sem (ForInStep ByteArray))).run P w = .ok ⟨acc.data ++ bs.toArray⟩ w
  | [], acc => by simp
  | b :: bs, acc => by
    simp only [List.map_cons, List.forIn_cons, Sem.run_bind, Sem.run_pure, Result.andThen_ok, runs_bytes w bs]
    congr 1
    simp [ByteArray.ext_iff, ByteArray.push]

theorem bytesToString_ok (hh : HRel μ H w) {b off n : Nat} {cap : Cap} (hcap : cap ≠ .dead) {xv : Value} (hx : VRel μ (.slice b off n cap) xv) {cs : List AV} (hl : loadCells H b off n = some cs) {bs : List UInt8} (hb : cellBytes cs = some bs) :
    ValOK P μ H w (Conv.bytesToString xv) (.str bs) H := by
  obtain ⟨i, hi, hc⟩ := hx
  have : ∃ c, xv = .slice (some ⟨i.blk, i.base + off, none⟩) n c := by
    cases cap with
    | exact c => cases hc; exact ⟨c, rfl⟩
    | opn esz => obtain ⟨c, rfl, _⟩ := hc; exact ⟨c, rfl⟩
    | dead => exact absurd rfl hcap
  obtain ⟨c, rfl⟩ := this
  obtain ⟨us, h1, h2⟩ := loadCells_rel (P := P) hh hi hl
  have hus := cellBytes_rel cs bs us hb h2
  subst hus
  refine .same hh (v' := .string ⟨bs.toArray⟩) ?_ ⟨_, rfl, by simp⟩
  simp only [Conv.bytesToString, Sem.run_bind, h1, Result.andThen_ok]
  have e := runs_bytes (P := P) w bs ByteArray.empty
  rw [← List.forIn_toArray] at e
  refine (congrArg (fun r => Result.andThen r _) e).trans ?_
  simp

theorem stringToBytes_ok (hh : HRel μ H w) {e : TypeId} {bs : ByteArray} :
    ValOK P μ H w (Conv.stringToBytes e bs) (.slice H.n 0 bs.data.toList.length (.opn 1)) (H.push (.cells (byteCells bs.data.toList) e .opn 0 0)) := by
  have hforced : (Question.appendCap bs.size 0 e).forced = false := rfl
  have hsz : bs.data.toList.length = bs.size := Array.length_toList
  obtain ⟨cap, hcap, hle⟩ : ∃ cap, (Question.appendCap bs.size 0 e).cut (w.tape w.drawn (Question.appendCap bs.size 0 e)) = cap ∧ bs.size ≤ cap := ⟨_, rfl, by simp [Question.cut]⟩
  have hle' := hh.drew.le_upd ⟨w.heap.size, 0, cap⟩
  let c : Array Value := (bs.data.map fun b => .int .u8 b.toNat) ++ Array.replicate (cap - bs.size) (.int .u8 0)
  have hcs : c.size = cap := by
    have : bs.data.size = bs.size := rfl
    simp only [c, Array.size_append, Array.size_map, Array.size_replicate, this]; omega
  have hcell : CellsRel (upd μ H.n ⟨w.heap.size, 0, cap⟩) (byteCells bs.data.toList) c 0 := fun j v hj => by
    obtain ⟨u, hu, hr⟩ := (byteCells_rel μ bs.data.toList).get hj
    refine ⟨u, ?_, hr.mono hle'⟩
    have hjl : j < bs.data.size := by
      rcases Nat.lt_or_ge j bs.data.size with h | h
      · exact h
      · rw [List.getElem?_eq_none (by simpa using h)] at hu; cases hu
    simp only [c, Nat.zero_add]
    rw [Array.getElem?_append_left (by simpa using hjl)]
    simpa using hu
  have r12 : HRel (upd μ H.n ⟨w.heap.size, 0, cap⟩) (H.push (.cells (byteCells bs.data.toList) e .opn 0 0)) (w.drew.alloc (.cells c e)) ∧ Adv μ H w.drew (upd μ H.n ⟨w.heap.size, 0, cap⟩) (H.push (.cells (byteCells bs.data.toList) e .opn 0 0)) (w.drew.alloc (.cells c e)) :=
    hh.drew.alloc (.cells (byteCells bs.data.toList) e .opn 0 0) (.cells c e) cap
    ⟨c, 0, 0, World.heap_alloc_new _ _, hcell, by simp [hcs], by
      refine ⟨?_, fun j _ _ h => by omega⟩
      rw [byteCells_length, hsz]; exact hle⟩
  obtain ⟨r1, r2⟩ := r12
  -- the mark behind its end
  let w2 : World := (w.drew.alloc (.cells c e)).freeze ⟨w.heap.size, cap, none⟩ 1
  have hw2 : w2.heap[w.heap.size]? = some (.cells c e (cap, cap + 1)) := by
    simp only [w2, World.freeze, if_neg (show ¬ (1 = 0) by omega), Array.getElem?_modify]
    have : (w.drew.alloc (.cells c e)).heap[w.heap.size]? = some (.cells c e (0, 0)) := World.heap_alloc_new _ _
    rw [this]; simp
  have hnew : (H.push (.cells (byteCells bs.data.toList) e .opn 0 0)).get H.n = some (.cells (byteCells bs.data.toList) e .opn 0 0) := by rw [AHeap.get_push, if_pos rfl]
  have hst : HRel (upd μ H.n ⟨w.heap.size, 0, cap⟩) ((H.push (.cells (byteCells bs.data.toList) e .opn 0 0)).set H.n (some (.cells (byteCells bs.data.toList) e .opn 0 0))) w2 ∧
      Adv (upd μ H.n ⟨w.heap.size, 0, cap⟩) (H.push (.cells (byteCells bs.data.toList) e .opn 0 0)) (w.drew.alloc (.cells c e)) (upd μ H.n ⟨w.heap.size, 0, cap⟩) ((H.push (.cells (byteCells bs.data.toList) e .opn 0 0)).set H.n (some (.cells (byteCells bs.data.toList) e .opn 0 0))) w2 :=
    r1.update hnew rfl (upd_same _ _ _) (by simp [w2, World.freeze]) (fun r hr => by
      simp only [w2, World.freeze, if_neg (show ¬ (1 = 0) by omega), Array.getElem?_modify]
      rw [if_neg (fun e => hr e.symm)]) (by simp [w2, World.freeze]) (by simp [w2, World.freeze]) (by simp [w2, World.freeze])
      ⟨c, cap, cap + 1, hw2, hcell, by simp [hcs], by
        refine ⟨by rw [byteCells_length, hsz]; exact hle, fun j j1 j2 j3 => by simp only at j1 j2; omega⟩⟩
  refine ⟨upd μ H.n ⟨w.heap.size, 0, cap⟩, w2, .slice (some ⟨w.heap.size, 0, none⟩) bs.size cap, ?_, ⟨⟨w.heap.size, 0, cap⟩, upd_same _ _ _, cap, by simp [hsz], by rw [hsz]; exact hle, by simp⟩, ?_, ?_⟩
  · simp only [Conv.stringToBytes, Sem.run_bind, run_choose, hforced, Bool.false_eq_true, if_false, World.drew_eq, Result.andThen_ok, hcap]
    have e1 : (_root_.Go.newRow e c).run P w.drew = .ok ⟨w.heap.size, 0, none⟩ (w.drew.alloc (.cells c e)) := rfl
    rw [show (_root_.Go.newRow e ((bs.data.map fun b => .int .u8 b.toNat) ++ Array.replicate (cap - bs.size) (.int .u8 0))).run P w.drew = _ from e1]
    have e2 : (w.drew.alloc (.cells c e)).shape? w.heap.size = some (e, cap) := by
      have : (w.drew.alloc (.cells c e)).heap[w.heap.size]? = some (.cells c e (0, 0)) := World.heap_alloc_new _ _
      simp only [World.shape?, this, hcs]
    simp only [Result.andThen_ok, markStringish, Sem.run_bind, run_shape, e2, run_freeze, Sem.run_pure]
    rfl
  · -- the heap written anew is the heap
    refine ⟨fun b o i hb hi => hst.1.rel b o i ?_ hi, fun b c' i j hb hc => hst.1.inj b c' i j ?_ ?_, hst.1.lt, fun b hb => ?_⟩
    · rw [AHeap.get_set]; split
      · rename_i e; subst e; rw [hnew] at hb; exact hb
      · exact hb
    · rw [AHeap.get_set]; split
      · simp
      · exact hb
    · rw [AHeap.get_set]; split
      · exact ⟨_, rfl, rfl⟩
      · exact hc
    · exact r1.bound b hb
  · refine Adv.trans hh hh.drew Adv.drew (Adv.trans hh.drew r1 r2 ⟨Le.refl _, hst.2.size, Nat.le_refl _, fun _ _ h => h, fun _ _ _ => rfl, hst.2.old, fun b i h h' => (by rw [h] at h'; cases h'), fun b o i hb hr hi => ⟨hb, (hst.2.ro b o i hb hr hi).2⟩, hst.2.os, hst.2.out, hst.2.tape, hst.2.drawn⟩)

-- equality

theorem sameAddr_one {i : Img} {o o' : Nat} : (sameAddr ⟨i.blk, i.base + o, none⟩ ⟨i.blk, i.base + o', none⟩).run P w = .ok (Nat.beq o o') w := by
  simp only [sameAddr, beq_self_eq_true, if_true, Sem.run_pure]
  congr 1
  rw [Bool.eq_iff_iff]
  simp
theorem sameAddr_two {r r' o o' el el' : Nat} {c c' : Array Value} (h : w.heap[r]? = some (.cells c el (0, 0))) (h' : w.heap[r']? = some (.cells c' el' (0, 0))) (hne : r ≠ r') :
    (sameAddr ⟨r, o, none⟩ ⟨r', o', none⟩).run P w = .ok false w := by
  have hb : (r == r') = false := beq_eq_false_iff_ne.2 hne
  have f1 : ∀ k, w.frozen? ⟨r, k, none⟩ = false := fun k => by simp [World.frozen?, h]
  have f2 : ∀ k, w.frozen? ⟨r', k, none⟩ = false := fun k => by simp [World.frozen?, h']
  have s1 : w.shape? r = some (el, c.size) := by simp [World.shape?, h]
  have s2 : w.shape? r' = some (el', c'.size) := by simp [World.shape?, h']
  simp [sameAddr, hb, f1, f2, noView, viewAt, s1, s2, mayBeOne, stringish]

theorem run_fields (w : World) (D : Nat) (E : TypeId → AV → AV → Option Bool) (hE : ∀ t x y b xv yv, E t x y = some b → VRel μ x xv → VRel μ y yv → (Op.equalIn D t xv yv).run P w = .ok b w)
    {xs ys : List AV} {xl yl : List Value} (hx : VRels μ xs xl) (hy : VRels μ ys yl) : ∀ (fs : List Field) (b : Bool), eqFields P E xs ys fs = some b → (Op.eqFields D ⟨xl⟩ ⟨yl⟩ fs).run P w = .ok b w
  | [], b, h => by cases h; rfl
  | f :: fs, b, h => by
    simp only [eqFields] at h
    split at h
    · rename_i hn
      have hn : f.name = "_" := of_decide_eq_true hn
      have ih := run_fields w D E hE hx hy fs b h
      simp only [Op.eqFields, hn, ne_eq, not_true_eq_false, if_false]
      exact ih
    · rename_i hn
      have hn : ¬ (f.name = "_") := of_decide_eq_false hn
      split at h
      · rename_i a c ha hc
        obtain ⟨av, p1, p2⟩ := part_rel (P := P) (w := w) hx ha
        obtain ⟨cv, q1, q2⟩ := part_rel (P := P) (w := w) hy hc
        split at h
        · rename_i he
          have hr := hE _ _ _ _ av cv he p2 q2
          have ih := run_fields w D E hE hx hy fs b h
          simp only [Op.eqFields, ne_eq, hn, not_false_eq_true, if_true, Sem.run_bind, p1, q1, Result.andThen_ok, hr, Bool.not_true, Bool.false_eq_true, if_false]
          exact ih
        · rename_i r hr
          cases b with
          | true => exact absurd h hr
          | false =>
            have hr2 := hE _ _ _ _ av cv h p2 q2
            simp only [Op.eqFields, ne_eq, hn, not_false_eq_true, if_true, Sem.run_bind, p1, q1, Result.andThen_ok, hr2, Bool.not_false, Sem.run_pure]
      · cases h

theorem run_items (w : World) (D : Nat) {e : TypeId} {sz : Nat} (E : TypeId → AV → AV → Option Bool) (hE : ∀ t x y b xv yv, E t x y = some b → VRel μ x xv → VRel μ y yv → (Op.equalIn D t xv yv).run P w = .ok b w) {xs ys : List AV} {xl yl : List Value} (hx : VRels μ xs xl) (hy : VRels μ ys yl) :
    ∀ (n i : Nat) (b : Bool), eqItemsA P E e sz xs ys n i = some b → (Op.eqItems D e sz ⟨xl⟩ ⟨yl⟩ (List.range' i n)).run P w = .ok b w
  | 0, i, b, h => by simp only [eqItemsA] at h; cases h; simp [Op.eqItems]
  | n + 1, i, b, h => by
    simp only [eqItemsA] at h
    rw [List.range'_succ]
    split at h
    · rename_i a c ha hc
      obtain ⟨av, p1, p2⟩ := part_rel (P := P) (w := w) hx ha
      obtain ⟨cv, q1, q2⟩ := part_rel (P := P) (w := w) hy hc
      split at h
      · rename_i he
        have hr := hE _ _ _ _ av cv he p2 q2
        have ih := run_items w D E hE hx hy n (i + 1) b h
        simp only [Op.eqItems, Sem.run_bind, p1, q1, Result.andThen_ok, hr, Bool.not_true, Bool.false_eq_true, if_false]
        exact ih
      · rename_i r hr
        cases b with
        | true => exact absurd h hr
        | false =>
          have hr2 := hE _ _ _ _ av cv h p2 q2
          simp only [Op.eqItems, Sem.run_bind, p1, q1, Result.andThen_ok, hr2, Bool.not_false, if_true, Sem.run_pure]
    · cases h

set_option maxHeartbeats 4000000 in
theorem eqA_rel (hh : HRel μ H w) : ∀ (d : Nat) (t : TypeId) (x y : AV) (b : Bool) (xv yv : Value) (D : Nat), d ≤ D → eqA P H d t x y = some b → VRel μ x xv → VRel μ y yv → (Op.equalIn D t xv yv).run P w = .ok b w
  | 0, t, x, y, b, xv, yv, D, _, h, _, _ => by simp [eqA] at h
  | d + 1, t, x, y, b, xv, yv, 0, hd, _, _, _ => by omega
  | d + 1, t, x, y, b, xv, yv, D + 1, hd, h, hx, hy => by
    unfold eqA at h
    cases hu : P.underlying t with
    | none => rw [hu] at h; cases h
    | some u =>
      rw [hu] at h
      cases u <;> simp only at h
      case bool =>
        split at h <;> cases h
        cases hx; cases hy
        simp [Op.equalIn, run_und hu]
      case int k0 =>
        split at h
        · split at h
          · rename_i hk; cases h; subst hk; cases hx; cases hy
            simp [Op.equalIn, run_und hu, eqI]
          · cases h
        · cases h
      case string =>
        split at h <;> cases h
        obtain ⟨s1, rfl, rfl⟩ := hx
        obtain ⟨s2, rfl, rfl⟩ := hy
        rw [beqBytes_eq, ← bytes_toList, ← bytes_toList, ← beq_toListBytes]
        simp [Op.equalIn, run_und hu]
      case pointer e =>
        split at h
        · cases h; cases hx; cases hy; simp [Op.equalIn, run_und hu]
        · cases h; cases hx; obtain ⟨i, _, rfl⟩ := hy; simp [Op.equalIn, run_und hu]
        · cases h; cases hy; obtain ⟨i, _, rfl⟩ := hx; simp [Op.equalIn, run_und hu]
        · rename_i a i b' j
          split at h
          · rename_i n hs
            obtain ⟨ia, hia, rfl⟩ := hx
            obtain ⟨ib, hib, rfl⟩ := hy
            have hsz : (_root_.Go.sizeOf e).run P w = .ok (n + 1) w := run_sizeOf hs
            have goal : ∀ r, (sameAddr ⟨ia.blk, ia.base + i, none⟩ ⟨ib.blk, ib.base + j, none⟩).run P w = r → (Op.equalIn (D + 1) t (.pointer (some ⟨ia.blk, ia.base + i, none⟩)) (.pointer (some ⟨ib.blk, ib.base + j, none⟩))).run P w = r := by
              intro r hr
              simp [Op.equalIn, run_und hu, hsz, hr]
            unfold eqPtr at h
            split at h
            · rename_i hab
              cases h
              have := Nat.eq_of_beq_eq_true hab
              subst this
              rw [hia] at hib; cases hib
              exact goal _ sameAddr_one
            · rename_i hab
              split at h
              · rename_i ga gb
                cases h
                obtain ⟨c1, _, _, k1, _, _, k2⟩ := hh.rel _ _ ia ga hia
                obtain ⟨c2, _, _, l1, _, _, l2⟩ := hh.rel _ _ ib gb hib
                obtain ⟨_, _, rfl, rfl⟩ := k2
                obtain ⟨_, _, rfl, rfl⟩ := l2
                refine goal _ (sameAddr_two k1 l1 fun e => ?_)
                have := hh.inj _ _ ia ib (by rw [ga]; simp) ⟨_, gb, rfl⟩ hia hib e
                subst this
                simp at hab
              · cases h
          · cases h
        · cases h
      case slice e =>
        have sl : ∀ (b off n : Nat) (c : Cap) (v : Value), VRel μ (.slice b off n c) v → ∃ a m k, v = .slice (some a) m k := by
          rintro b off n c v ⟨i, _, hc⟩
          cases c with
          | exact c => cases hc; exact ⟨_, _, _, rfl⟩
          | opn esz => obtain ⟨c, rfl, _⟩ := hc; exact ⟨_, _, _, rfl⟩
          | dead => obtain ⟨_, a, c, rfl⟩ := hc; exact ⟨_, _, _, rfl⟩
        split at h
        · cases h; cases hx; cases hy; simp [Op.equalIn, run_und hu]
        · cases h; cases hx; obtain ⟨a, m, k, rfl⟩ := sl _ _ _ _ _ hy; simp [Op.equalIn, run_und hu]
        · cases h; cases hy; obtain ⟨a, m, k, rfl⟩ := sl _ _ _ _ _ hx; simp [Op.equalIn, run_und hu]
        · cases h
      case map k e =>
        split at h
        · cases h; cases hx; cases hy; simp [Op.equalIn, run_und hu]
        · cases h; cases hx; obtain ⟨i, _, rfl⟩ := hy; simp [Op.equalIn, run_und hu]
        · cases h; cases hy; obtain ⟨i, _, rfl⟩ := hx; simp [Op.equalIn, run_und hu]
        · cases h
      case func ps rs v =>
        split at h
        · cases h; cases hx; cases hy; simp [Op.equalIn, run_und hu]
        · cases h; cases hx; obtain ⟨_, _, rfl, _⟩ := hy; simp [Op.equalIn, run_und hu]
        · cases h; cases hy; obtain ⟨_, _, rfl, _⟩ := hx; simp [Op.equalIn, run_und hu]
        · cases h
      case interface ms =>
        split at h
        · cases h; cases hx; cases hy; simp [Op.equalIn, run_und hu]
        · cases h; cases hx; obtain ⟨_, rfl, _⟩ := hy; simp [Op.equalIn, run_und hu]
        · cases h; cases hy; obtain ⟨_, rfl, _⟩ := hx; simp [Op.equalIn, run_und hu]
        · rename_i a v b' u
          obtain ⟨v1, rfl, r1⟩ := hx
          obtain ⟨u1, rfl, r2⟩ := hy
          split at h
          · rename_i hab
            cases h
            have : a ≠ b' := by intro e; subst e; simp at hab
            simp [Op.equalIn, run_und hu, this]
          · rename_i hab
            have := Nat.eq_of_beq_eq_true hab
            subst this
            split at h
            · rename_i ti hti
              split at h
              · rename_i hcmp
                have ih := eqA_rel hh d a v u b v1 u1 D (by omega) h r1 r2
                simp [Op.equalIn, run_und hu, run_typeInfo hti, hcmp, ih]
              · cases h
            · cases h
        · cases h
      case struct fs =>
        split at h
        · rename_i xs ys
          split at h
          · cases h
          · rename_i hst
            obtain ⟨xl, rfl, hxl⟩ := hx
            obtain ⟨yl, rfl, hyl⟩ := hy
            have key := run_fields (P := P) w D (eqA P H d) (fun t x y b xv yv he h1 h2 => eqA_rel hh d t x y b xv yv D (by omega) he h1 h2) hxl hyl fs.toList b h
            have hfs : P.fieldsOf t = fs := by simp [Program.fieldsOf, hu]
            rw [run_equalIn_struct w D t _ _ (by rw [hfs]; exact hu) hst, hfs]
            exact key
        · cases h
      case array n e =>
        split at h
        · rename_i xs ys
          split at h
          · rename_i sz hsz
            obtain ⟨xl, rfl, hxl⟩ := hx
            obtain ⟨yl, rfl, hyl⟩ := hy
            have hi : ∃ i, P.info? e = some i ∧ i.size = sz := by
              unfold sizeT at hsz
              split at hsz
              · rename_i i hi; cases hsz; exact ⟨i, hi, rfl⟩
              · cases hsz
            obtain ⟨i, hi, hisz⟩ := hi
            have hcz : P.cellsOf e = sz := by unfold Program.cellsOf; rw [hi]; exact hisz
            rw [run_equalIn_array w D _ _ hu hi, hcz, List.range_eq_range']
            exact run_items w D (eqA P H d) (fun t x y b xv yv he h1 h2 => eqA_rel hh d t x y b xv yv D (by omega) he h1 h2) hxl hyl n 0 b h
          · cases h
        · cases h
      all_goals cases h

-- maps

theorem same_rel {u : TypeDesc} {kt : TypeId} (hu : P.underlying kt = some u) {k x : AV} {kv xv : Value} {b : Bool} (hk : keyS P kt k = true) (h : sameA k x = some b) (h1 : VRel μ k kv) (h2 : VRel μ x xv) : Instr.sameNow u kv xv = some b := by
  unfold keyS at hk
  rw [hu] at hk
  cases u <;> simp only at hk <;> try cases hk
  · -- bool
    split at hk <;> try cases hk
    cases x <;> simp only [sameA] at h <;> cases h
    cases h1; cases h2; rfl
  · -- int
    split at hk <;> try cases hk
    cases x <;> simp only [sameA] at h <;> try cases h
    split at h
    · rename_i e; cases h; subst e; cases h1; cases h2; simp [Instr.sameNow, eqI]
    · cases h
  · split at hk <;> try cases hk
    cases x <;> simp only [sameA] at h <;> cases h
    obtain ⟨s1, rfl, rfl⟩ := h1
    obtain ⟨s2, rfl, rfl⟩ := h2
    simp only [Instr.sameNow]
    rw [beqBytes_eq, ← bytes_toList, ← bytes_toList, ← beq_toListBytes]
def FoundRel (μ : Mu) : Option (Nat × AV) → Option (Nat × Value) → Prop
  | none, none => True
  | some (i, a), some (j, v) => i = j ∧ VRel μ a v
  | _, _ => False
theorem sameK_scalar {H : AHeap} {kt : TypeId} {k x : AV} (hk : ∀ cs, k ≠ .agg cs) : sameK P H kt k x = sameA k x := by
  cases k <;> first | rfl | exact absurd rfl (hk _)
theorem keyT_scalar {kt : TypeId} {k : AV} (hk : ∀ cs, k ≠ .agg cs) (h : keyT P kt k = true) : keyS P kt k = true := by
  cases k <;> first | exact h | exact absurd rfl (hk _)
theorem find_rel {H : AHeap} {u : TypeDesc} {kt : TypeId} (hu : P.underlying kt = some u) {k : AV} {kv : Value} (hs : ∀ cs, k ≠ .agg cs) (hk : keyS P kt k = true) (h1 : VRel μ k kv) : ∀ (es : List AEnt) (ents : List MapEntry) (i : Nat) (r : Option (Nat × AV)), EntsRel μ es ents → findA P H kt k es i = some r →
    ∃ r', Instr.findNow u kv ents i = some r' ∧ FoundRel μ r r'
  | [], _, i, r, he, h => by
    cases he; simp [findA] at h; subst h
    exact ⟨none, rfl, trivial⟩
  | e :: es, _, i, r, ⟨m, ms, e1, e2, e3⟩, h => by
    subst e1
    simp only [findA, sameK_scalar hs] at h
    split at h
    · rename_i hs
      cases h
      exact ⟨some (i, m.val), by simp [Instr.findNow, same_rel hu hk hs h1 e2.1], rfl, e2.2.1⟩
    · rename_i hq
      obtain ⟨r', q1, q2⟩ := find_rel hu hs hk h1 es ms (i + 1) r e3 h
      exact ⟨r', by simp [Instr.findNow, same_rel hu hk hq h1 e2.1, q1], q2⟩
    · cases h
theorem ask_rel (hh : HRel μ H w) {kt : TypeId} {cs : List AV} {kv : Value} (h1 : VRel μ (.agg cs) kv) : ∀ (es : List AEnt) (ents : List MapEntry) (i : Nat) (r : Option (Nat × AV)), EntsRel μ es ents → findA P H kt (.agg cs) es i = some r →
    ∃ r', (Instr.findAsking kt kv ents i).run P w = .ok r' w ∧ FoundRel μ r r'
  | [], _, i, r, he, h => by
    cases he; simp [findA] at h; subst h
    exact ⟨none, rfl, trivial⟩
  | e :: es, _, i, r, ⟨m, ms, e1, e2, e3⟩, h => by
    subst e1
    simp only [findA, sameK] at h
    split at h
    · rename_i hs
      cases h
      have := eqA_rel (P := P) hh 8 kt _ _ true kv m.key Op.maxDepth (by decide) hs h1 e2.1
      exact ⟨some (i, m.val), by simp [Instr.findAsking, Op.equal, this], rfl, e2.2.1⟩
    · rename_i hs
      have := eqA_rel (P := P) hh 8 kt _ _ false kv m.key Op.maxDepth (by decide) hs h1 e2.1
      obtain ⟨r', q1, q2⟩ := ask_rel hh h1 es ms (i + 1) r e3 h
      exact ⟨r', by simp [Instr.findAsking, Op.equal, this, q1], q2⟩
    · cases h
theorem findA_lt {H : AHeap} {kt : TypeId} {k : AV} : ∀ (es : List AEnt) (i : Nat) (j : Nat) (v : AV), findA P H kt k es i = some (some (j, v)) → i ≤ j ∧ ∃ e, es[j - i]? = some e ∧ e.val = v ∧ sameK P H kt k e.key = some true
  | [], i, j, v, h => by simp [findA] at h
  | e :: es, i, j, v, h => by
    simp only [findA] at h
    split at h
    · rename_i hs
      cases h; exact ⟨Nat.le_refl _, e, by simp, rfl, hs⟩
    · obtain ⟨h1, e', h2, h3⟩ := findA_lt es (i + 1) j v h
      refine ⟨by omega, e', ?_, h3⟩
      have : j - i = (j - (i + 1)) + 1 := by omega
      rw [this]; simpa using h2
    · cases h
theorem checkS_succ {kt : TypeId} {k : AV} {kv : Value} (hk : keyS P kt k = true) (b : Bool) (n : Nat) : (Instr.checkKey b (n + 1) kt kv).run P w = .ok () w := by
  unfold keyS at hk
  cases hu : P.underlying kt with
  | none => rw [hu] at hk; cases hk
  | some u =>
    rw [hu] at hk
    cases u <;> simp only at hk <;> try cases hk
    all_goals simp [Instr.checkKey, run_und hu]
theorem checkFs (b : Bool) {m n : Nat} (hm : m = n + 1) {cs : List AV} {l : List Value} (hl : VRels μ cs l) : ∀ (fs : List Field), keyFs P cs fs = true →
    (forIn fs PUnit.unit (fun f _ => if f.name ≠ "_" then (do let x ← part f.type ⟨l⟩ f.offset; Instr.checkKey b m f.type x; pure (ForInStep.yield PUnit.unit)) else pure (ForInStep.yield PUnit.unit)) : Sem PUnit).run P w = .ok PUnit.unit w
  | [], h => by simp
  | f :: fs, h => by
    unfold keyFs at h
    split at h
    · rename_i a ha
      split at h
      · rename_i hk
        have ih := checkFs b hm hl fs h
        obtain ⟨u, p1, p2⟩ := part_rel (P := P) (w := w) hl ha
        have hc := checkS_succ (P := P) (w := w) (kv := u) hk b n
        rw [← hm] at hc
        rw [List.forIn_cons]
        by_cases hn : f.name = "_"
        · simp only [hn, ne_eq, not_true_eq_false, if_false, Sem.run_bind, Sem.run_pure, Result.andThen_ok]
          exact ih
        · simp only [ne_eq, hn, not_false_eq_true, if_true, Sem.run_bind, p1, Result.andThen_ok, hc, Sem.run_pure]
          exact ih
      · cases h
    · cases h
theorem checkIs (b : Bool) {m n : Nat} (hm : m = n + 1) {e : TypeId} {sz : Nat} (hsz : sizeT P e = some sz) {cs : List AV} {l : List Value} (hl : VRels μ cs l) : ∀ (k i : Nat), keyIs P e sz cs k i = true →
    (forIn (List.range' i k) PUnit.unit (fun i _ => do (Instr.checkKey b m e (← part e ⟨l⟩ (i * (← _root_.Go.sizeOf e)))); pure (ForInStep.yield PUnit.unit)) : Sem PUnit).run P w = .ok PUnit.unit w
  | 0, i, h => by simp
  | k + 1, i, h => by
    unfold keyIs at h
    split at h
    · rename_i a ha
      split at h
      · rename_i hk
        have ih := checkIs b hm hsz hl k (i + 1) h
        obtain ⟨u, p1, p2⟩ := part_rel (P := P) (w := w) hl ha
        have hc := checkS_succ (P := P) (w := w) (kv := u) hk b n
        rw [← hm] at hc
        rw [List.range'_succ, List.forIn_cons]
        simp only [Sem.run_bind, run_sizeOf hsz, p1, Result.andThen_ok, hc, Sem.run_pure]
        exact ih
      · cases h
    · cases h
theorem checkAgg {kt : TypeId} {cs : List AV} {l : List Value} (hl : VRels μ cs l) (hk : keyT P kt (.agg cs) = true) (b : Bool) {m n : Nat} (hm : m = n + 1) : (Instr.checkKey b (m + 1) kt (.agg ⟨l⟩)).run P w = .ok () w := by
  unfold keyT at hk
  simp only at hk
  split at hk
  · rename_i fs hu
    have key := checkFs (P := P) (w := w) b hm hl fs.toList hk
    simp only [Instr.checkKey, Sem.run_bind, run_und hu, Result.andThen_ok]
    rw [← Array.forIn_toList]
    first | exact key | exact Eq.trans (congrArg (fun q => Result.andThen q _) key) rfl | simpa using key
  · rename_i n' e hu
    split at hk
    · rename_i sz hsz
      have key := checkIs (P := P) (w := w) b hm hsz hl n' 0 hk
      simp only [Instr.checkKey, Sem.run_bind, run_und hu, Result.andThen_ok]
      simp only [Std.Legacy.Range.forIn_eq_forIn_range', Std.Legacy.Range.size, Nat.sub_zero, Nat.add_one_sub_one, Nat.div_one]
      first | exact key | exact Eq.trans (congrArg (fun q => Result.andThen q _) key) rfl | simpa using key
    · cases hk
  · cases hk
theorem checkKey_ok {kt : TypeId} {k : AV} {kv : Value} (hk : keyT P kt k = true) (h1 : VRel μ k kv) (b : Bool) : (Instr.checkKey b 10000 kt kv).run P w = .ok () w := by
  by_cases hs : ∀ cs, k ≠ .agg cs
  · exact checkS_succ (keyT_scalar hs hk) b 9999
  · have : ∃ cs, k = .agg cs := by
      cases k <;> first | exact ⟨_, rfl⟩ | exact absurd (fun cs h => by cases h) hs
    obtain ⟨cs, rfl⟩ := this
    obtain ⟨l, rfl, hl⟩ := h1
    exact checkAgg hl hk b (m := 9999) (n := 9998) rfl
theorem findKey_rel (hh : HRel μ H w) {kt : TypeId} {k : AV} {kv : Value} (hk : keyT P kt k = true) (h1 : VRel μ k kv) {es : List AEnt} {ents : List MapEntry} {r : Option (Nat × AV)} (he : EntsRel μ es ents) (h : findA P H kt k es 0 = some r) :
    ∃ r', (Instr.findKey kt kv ents).run P w = .ok r' w ∧ FoundRel μ r r' := by
  by_cases hs : ∀ cs, k ≠ .agg cs
  · have hk' := keyT_scalar hs hk
    cases hu : P.underlying kt with
    | none => unfold keyS at hk'; rw [hu] at hk'; cases hk'
    | some u =>
      obtain ⟨r', q1, q2⟩ := find_rel hu hs hk' h1 es ents 0 r he h
      exact ⟨r', by simp [Instr.findKey, run_und hu, q1], q2⟩
  · have : ∃ cs, k = .agg cs := by
      cases k <;> first | exact ⟨_, rfl⟩ | exact absurd (fun cs h => by cases h) hs
    obtain ⟨cs, rfl⟩ := this
    have hu : ∃ u, P.underlying kt = some u := by
      unfold keyT at hk
      simp only at hk
      split at hk
      · exact ⟨_, by assumption⟩
      · exact ⟨_, by assumption⟩
      · cases hk
    obtain ⟨u, hu⟩ := hu
    obtain ⟨r', q1, q2⟩ := ask_rel (P := P) hh h1 es ents 0 r he h
    obtain ⟨l, rfl, hl⟩ := h1
    refine ⟨r', ?_, q2⟩
    have hn : ∀ (ms : List MapEntry) , ms ≠ [] → Instr.findNow u (.agg ⟨l⟩) ms 0 = none := fun ms hms => by
      cases ms with
      | nil => exact absurd rfl hms
      | cons m ms => cases u <;> rfl
    cases ents with
    | nil =>
      cases es with
      | nil => simp only [findA] at h; cases h; cases r' with
        | none => simp [Instr.findKey, run_und hu, Instr.findNow]
        | some y => exact q2.elim
      | cons e es => obtain ⟨_, _, hc, _⟩ := he; cases hc
    | cons m ms =>
      simp only [Instr.findKey, Sem.run_bind, run_und hu, Result.andThen_ok, hn (m :: ms) (by simp)]
      exact q1
theorem EntsRel.append : ∀ {es fs : List AEnt} {ms ns : List MapEntry}, EntsRel μ es ms → EntsRel μ fs ns → EntsRel μ (es ++ fs) (ms ++ ns)
  | [], _, _, _, h, h' => by cases h; exact h'
  | _ :: _, _, _, _, ⟨m, ms, e, h1, h2⟩, h' => by subst e; exact ⟨m, ms ++ _, rfl, h1, EntsRel.append h2 h'⟩
theorem EntsRel.get : ∀ {es : List AEnt} {ms : List MapEntry} (_ : EntsRel μ es ms) {j : Nat} {e : AEnt}, es[j]? = some e → ∃ m, ms[j]? = some m ∧ EntRel μ e m
  | [], _, _, j, e, h => by simp at h
  | x :: es, _, ⟨m, ms, e, h1, h2⟩, 0, a, h => by subst e; simp at h; subst h; exact ⟨m, rfl, h1⟩
  | x :: es, _, ⟨m, ms, e, h1, h2⟩, j + 1, a, h => by subst e; simp at h; simpa using EntsRel.get h2 h
theorem EntsRel.set {v key : AV} {vv kv : Value} (hv : VRel μ v vv) (hk : VRel μ key kv) : ∀ (i : Nat) {es : List AEnt} {ms : List MapEntry}, EntsRel μ es ms → EntsRel μ (setEnt v key i es) (ms.modify i fun e => { e with key := kv, val := vv })
  | 0, [], _, h => by cases h; rfl
  | _ + 1, [], _, h => by cases h; rfl
  | 0, e :: es, _, ⟨m, ms, e', h1, h2⟩ => by subst e'; exact ⟨_, ms, rfl, ⟨hk, hv, h1.2.2⟩, h2⟩
  | i + 1, e :: es, _, ⟨m, ms, e', h1, h2⟩ => by subst e'; exact ⟨m, _, rfl, h1, EntsRel.set hv hk i h2⟩
theorem EntsRel.del : ∀ (i : Nat) {es : List AEnt} {ms : List MapEntry}, EntsRel μ es ms → EntsRel μ (delEnt i es) (ms.eraseIdx i)
  | 0, [], _, h => by cases h; rfl
  | _ + 1, [], _, h => by cases h; rfl
  | 0, e :: es, _, ⟨m, ms, e', h1, h2⟩ => by subst e'; exact h2
  | i + 1, e :: es, _, ⟨m, ms, e', h1, h2⟩ => by subst e'; exact ⟨m, _, rfl, h1, EntsRel.del i h2⟩

theorem getMap {r : Nat} {i : Img} {es : List AEnt} {clock : Nat} (hh : HRel μ H w) (hi : μ r = some i) (hg : H.get r = some (.map es clock)) : ∃ ents, w.heap[i.blk]? = some (.map ⟨ents⟩ clock) ∧ EntsRel μ es ents ∧ (getObj i.blk).run P w = .ok (.map ⟨ents⟩ clock) w := by
  obtain ⟨ents, e1, e2⟩ := hh.rel _ _ i hg hi
  exact ⟨ents, e1, e2, by simp [getObj, Sem.run, e1]⟩
theorem putMap {r : Nat} {i : Img} {es es' : List AEnt} {clock c' : Nat} {ents ents' : List MapEntry} (hh : HRel μ H w) (hi : μ r = some i) (hg : H.get r = some (.map es clock)) (he : w.heap[i.blk]? = some (.map ⟨ents⟩ clock)) (hr : EntsRel μ es' ents') :
    ∃ w', (setObj i.blk (.map ⟨ents'⟩ c')).run P w = .ok () w' ∧ HRel μ (H.set r (some (.map es' c'))) w' ∧ Adv μ H w μ (H.set r (some (.map es' c'))) w' := by
  have hlt : i.blk < w.heap.size := (hh.lt _ _ hi).2
  obtain ⟨r1, r2⟩ := hh.update (w' := { w with heap := w.heap.setIfInBounds i.blk (.map ⟨ents'⟩ c') }) (o' := .map es' c') hg rfl hi (by simp) (fun r hr => by simp [Array.getElem?_setIfInBounds]; intro e; exact absurd e.symm hr) rfl rfl rfl
    ⟨ents', by simp [hlt], hr⟩
  exact ⟨_, by simp [setObj, Sem.run, he], r1, r2⟩
end
end AEv

/-
  THE ABSTRACT EVALUATOR: operations, last part: maps, ranges, assertions, bytes seen as a string.
-/
namespace AEv
open Go

section
variable {P : Program} {μ : Mu} {H : AHeap} {w : World}

theorem lookFin_rel {et : TypeId} {ok : Bool} {r : Option (Nat × AV)} {r' : Option (Nat × Value)} (hr : FoundRel μ r r') {v : AV} (h : lookFin P et ok r = some v) :
    ∃ u b, VRel μ v (if ok then .tuple #[u, .bool b] else u) ∧ ((∃ j, r' = some (j, u) ∧ b = true) ∨ (r' = none ∧ (zeroValue et).run P w = .ok u w ∧ b = false)) := by
  cases r with
  | none =>
    cases r' with
    | some x => exact hr.elim
    | none =>
      simp only [lookFin] at h
      split at h
      · rename_i z hz
        cases h
        obtain ⟨zv, q1, rfl, _⟩ := run_zero (P := P) (w := w) hz
        have := absV_rel μ zv
        refine ⟨zv, false, ?_, .inr ⟨rfl, q1, rfl⟩⟩
        cases ok
        · exact this
        · exact ⟨_, rfl, _, _, rfl, this, _, _, rfl, rfl, rfl⟩
      · cases h
  | some x =>
    cases r' with
    | none => exact hr.elim
    | some y =>
      obtain ⟨i, a⟩ := x
      obtain ⟨j, u⟩ := y
      obtain ⟨rfl, hau⟩ := hr
      simp only [lookFin] at h
      cases h
      refine ⟨u, true, ?_, .inl ⟨_, rfl, rfl⟩⟩
      cases ok
      · exact hau
      · exact ⟨_, rfl, _, _, rfl, hau, _, _, rfl, rfl, rfl⟩

theorem lookup_ok (hh : HRel μ H w) {t : TypeId} {m k : AV} {mv kv : Value} (hm : VRel μ m mv) (hk : VRel μ k kv) {ok : Bool} {v : AV} (h : lookupA P H t m k ok = some v) : ValOK P μ H w (Instr.lookup t mv kv ok) v H := by
  unfold lookupA at h
  split at h
  · rename_i kt et hu
    split at h
    · rename_i hkt
      split at h
      · cases hm
        obtain ⟨u, b, q1, q2⟩ := lookFin_rel (P := P) (w := w) (μ := μ) (r := none) (r' := none) trivial h
        refine .same hh (v' := if ok then .tuple #[u, .bool b] else u) ?_ q1
        have hf : (Instr.findKey kt kv []).run P w = .ok none w := by
          obtain ⟨r', a1, a2⟩ := findKey_rel (P := P) (w := w) (μ := μ) (es := []) (ents := []) (r := none) hh hkt hk rfl rfl
          cases r' with
          | none => exact a1
          | some x => exact a2.elim
        rcases q2 with ⟨j, e, _⟩ | ⟨_, q2, rfl⟩
        · cases e
        · simp [Instr.lookup, run_und hu, checkKey_ok hkt hk, hf, q2]
      · rename_i r
        split at h
        · rename_i es clock hg
          split at h
          · rename_i fr hf
            obtain ⟨i, hi, rfl⟩ := hm
            obtain ⟨ents, e1, e2, e3⟩ := getMap (P := P) hh hi hg
            obtain ⟨r', a1, a2⟩ := findKey_rel (P := P) (w := w) hh hkt hk e2 hf
            obtain ⟨u, b, q1, q2⟩ := lookFin_rel (P := P) (w := w) (μ := μ) a2 h
            refine .same hh (v' := if ok then .tuple #[u, .bool b] else u) ?_ q1
            rcases q2 with ⟨j, rfl, rfl⟩ | ⟨rfl, q2, rfl⟩
            · simp [Instr.lookup, run_und hu, checkKey_ok hkt hk, e3, a1]
            · simp [Instr.lookup, run_und hu, checkKey_ok hkt hk, e3, a1, q2]
          · cases h
        · cases h
      · cases h
    · cases h
  · cases h

theorem sameBits_one {k x : AV} {kv xv : Value} (n : Nat) (h : sameA k x = some true) (h1 : VRel μ k kv) (h2 : VRel μ x xv) : Instr.sameBits n xv kv = true := by
  cases k <;> cases x <;> simp only [sameA] at h <;> try cases h
  · simp at h; subst h; cases h1; cases h2; simp [Instr.sameBits]
  · split at h
    · rename_i e; subst e
      simp [eqI] at h; subst h; cases h1; cases h2; simp [Instr.sameBits]
    · cases h
  · simp only [Option.some.injEq] at h
    obtain ⟨s1, rfl, rfl⟩ := h1
    obtain ⟨s2, rfl, rfl⟩ := h2
    rw [beqBytes_eq, ← bytes_toList, ← bytes_toList, ← beq_toListBytes] at h
    have : (s2 == s1) = true := by rw [beq_toListBytes] at h ⊢; rw [beq_iff_eq] at h ⊢; exact h.symm
    simpa [Instr.sameBits] using this
theorem allSame_bits (n : Nat) : ∀ (a b : List AV) (la lb : List Value), allSame a b = true → VRels μ a la → VRels μ b lb → lb.length = la.length ∧ (lb.zip la).all (fun (x, y) => Instr.sameBits n x y) = true
  | [], [], la, lb, _, h1, h2 => by cases h1; cases h2; exact ⟨rfl, rfl⟩
  | [], _ :: _, _, _, h, _, _ => by cases h
  | _ :: _, [], _, _, h, _, _ => by cases h
  | x :: a, y :: b, _, _, h, ⟨u, us, rfl, u1, u2⟩, ⟨v, vs, rfl, v1, v2⟩ => by
    unfold allSame at h
    split at h
    · rename_i hs
      obtain ⟨e1, e2⟩ := allSame_bits n a b us vs h u2 v2
      refine ⟨by simp [e1], ?_⟩
      rw [List.zip_cons_cons, List.all_cons, e2, Bool.and_true]
      exact sameBits_one n hs u1 v1
    · cases h
theorem sameBits_scalar {kt : TypeId} {k x : AV} {kv xv : Value} (h : sameK P H kt k x = some true) (hst : stayA k x = true) (h1 : VRel μ k kv) (h2 : VRel μ x xv) : Instr.sameBits 10000 xv kv = true := by
  by_cases hs : ∀ cs, k ≠ .agg cs
  · rw [sameK_scalar hs] at h
    exact sameBits_one 10000 h h1 h2
  · have : ∃ cs, k = .agg cs := by
      cases k <;> first | exact ⟨_, rfl⟩ | exact absurd (fun cs h => by cases h) hs
    obtain ⟨a, rfl⟩ := this
    have : ∃ b, x = .agg b := by
      cases x <;> first | exact ⟨_, rfl⟩ | cases hst
    obtain ⟨b, rfl⟩ := this
    obtain ⟨la, rfl, u2⟩ := h1
    obtain ⟨lb, rfl, v2⟩ := h2
    have hst' : allSame a b = true := hst
    obtain ⟨e1, e2⟩ := allSame_bits (μ := μ) 9999 a b la lb hst' u2 v2
    show Instr.sameBits (9999 + 1) (.agg ⟨lb⟩) (.agg ⟨la⟩) = true
    generalize 9999 = n at e2 ⊢
    simp only [Instr.sameBits]
    rw [e2, Bool.and_true]
    simp [e1]

theorem ents_modify (l : List MapEntry) (i : Nat) (f : MapEntry → MapEntry) : (⟨l⟩ : Array MapEntry).modify i f = ⟨l.modify i f⟩ := by
  apply Array.ext'
  simp

theorem mapUpd_ok (hh : HRel μ H w) {t : TypeId} {m k x : AV} {mv kv xv : Value} (hm : VRel μ m mv) (hk : VRel μ k kv) (hx : VRel μ x xv) {H' : AHeap} (h : mapUpdA P H t m k x = some H') :
    ∃ w', (Instr.mapUpdate t mv kv xv).run P w = .ok () w' ∧ HRel μ H' w' ∧ Adv μ H w μ H' w' := by
  unfold mapUpdA at h
  split at h
  · rename_i kt et hu
    split at h
    · rename_i hkt
      split at h
      · rename_i r
        split at h
        · rename_i es clock hg
          obtain ⟨i, hi, rfl⟩ := hm
          obtain ⟨ents, e1, e2, e3⟩ := getMap (P := P) hh hi hg
          split at h
          · rename_i j a hf
            have hstay : stayA k (keyAt j es) = true := by
              cases hc : stayA k (keyAt j es) with
              | true => rfl
              | false => rw [hc] at h; cases h
            rw [hstay] at h
            cases h
            obtain ⟨r', a1, a2⟩ := findKey_rel (P := P) (w := w) hh hkt hk e2 hf
            cases r' with
            | none => exact a2.elim
            | some y =>
              obtain ⟨j', u⟩ := y
              obtain ⟨rfl, hau⟩ := a2
              obtain ⟨_, en, q1, q2, q3⟩ := findA_lt es 0 j a hf
              obtain ⟨mn, p1, p2⟩ := e2.get (by simpa using q1)
              have hstay : stayA k en.key = true := by
                have : keyAt j es = en.key := by unfold keyAt; rw [nth_eq, show es[j]? = some en by simpa using q1]
                rw [← this]; exact hstay
              have hst : (Instr.keyThatStays (((ents[j]?).map (·.key)).getD kv) kv).run P w = .ok kv w := by
                simp only [Instr.keyThatStays, p1, Option.map_some, Option.getD_some, sameBits_scalar q3 hstay hk p2.1, if_true, Sem.run_pure]
              obtain ⟨w', z1, z2, z3⟩ := putMap (P := P) (c' := clock) hh hi hg e1 (e2.set hx hk j)
              refine ⟨w', ?_, z2, z3⟩
              simp only [Instr.mapUpdate, Sem.run_bind, run_und hu, Result.andThen_ok, e3, checkKey_ok hkt hk, a1, List.getElem?_toArray, hst, ents_modify, z1]
          · rename_i hf
            cases h
            obtain ⟨r', a1, a2⟩ := findKey_rel (P := P) (w := w) hh hkt hk e2 hf
            cases r' with
            | some y => exact a2.elim
            | none =>
              obtain ⟨w', z1, z2, z3⟩ := putMap (P := P) (c' := clock + 1) (ents' := ents ++ [⟨kv, xv, clock⟩]) hh hi hg e1 (e2.append (show EntsRel μ [⟨k, x, clock⟩] [⟨kv, xv, clock⟩] from ⟨_, _, rfl, ⟨hk, hx, rfl⟩, rfl⟩))
              refine ⟨w', ?_, z2, z3⟩
              simp only [Instr.mapUpdate, Sem.run_bind, run_und hu, Result.andThen_ok, e3, checkKey_ok hkt hk, a1, List.push_toArray, z1]
          · cases h
        · cases h
      · cases h
    · cases h
  · cases h

theorem mapEnt_ok (hh : HRel μ H w) {t : TypeId} {m k : AV} {mv kv : Value} (hm : VRel μ m mv) (hk : VRel μ k kv) {v : AV} {H' : AHeap} (h : mapEntA P H t m k = some (v, H')) : ValOK P μ H w (Instr.mapEntry t mv kv) v H' := by
  unfold mapEntA at h
  split at h
  · rename_i kt et hu
    split at h
    · rename_i hkt
      split at h
      · rename_i r
        split at h
        · rename_i es clock hg
          obtain ⟨i, hi, rfl⟩ := hm
          obtain ⟨ents, e1, e2, e3⟩ := getMap (P := P) hh hi hg
          split at h
          · rename_i j a hf
            split at h
            · rename_i en hen
              have hstay : stayA k en.key = true := by
                cases hc : stayA k en.key with
                | true => rfl
                | false => rw [hc] at h; cases h
              rw [hstay] at h
              cases h
              rw [nth_eq] at hen
              obtain ⟨r', a1, a2⟩ := findKey_rel (P := P) (w := w) hh hkt hk e2 hf
              cases r' with
              | none => exact a2.elim
              | some y =>
                obtain ⟨j', u⟩ := y
                obtain ⟨rfl, hau⟩ := a2
                obtain ⟨_, en', q1, q2, q3⟩ := findA_lt es 0 j a hf
                have : en' = en := by
                  have q1' : es[j]? = some en' := by simpa using q1
                  rw [hen] at q1'; cases q1'; rfl
                subst this
                obtain ⟨mn, p1, p2⟩ := e2.get hen
                have hst : (Instr.keyThatStays (((ents[j]?).map (·.key)).getD kv) kv).run P w = .ok kv w := by
                  simp only [Instr.keyThatStays, p1, Option.map_some, Option.getD_some, sameBits_scalar q3 hstay hk p2.1, if_true, Sem.run_pure]
                have hmod : EntsRel μ (setEnt a k j es) (ents.modify j fun e => { e with key := kv }) := by
                  have hs := e2.set (v := a) (vv := mn.val) (key := k) (kv := kv) (by rw [← q2]; exact p2.2.1) hk j
                  have : (ents.modify j fun e => { e with key := kv, val := mn.val }) = (ents.modify j fun e => { e with key := kv }) := by
                    apply List.ext_getElem?
                    intro q
                    rw [List.getElem?_modify, List.getElem?_modify]
                    by_cases hq : j = q
                    · subst hq; rw [p1]; simp
                    · simp [hq]
                  rw [← this]; exact hs
                obtain ⟨w', z1, z2, z3⟩ := putMap (P := P) (c' := clock) hh hi hg e1 hmod
                refine ⟨μ, w', .tuple #[u, .int .i64 (mn.born : Int)], ?_, ⟨_, rfl, _, _, rfl, hau, _, _, rfl, by rw [p2.2.2]; rfl, rfl⟩, z2, z3⟩
                rw [p1, Option.map_some, Option.getD_some] at hst
                simp only [Instr.mapEntry, Sem.run_bind, run_und hu, Result.andThen_ok, e3, checkKey_ok hkt hk, a1, List.getElem?_toArray, p1, Option.map_some, Option.getD_some, hst, ents_modify, z1, goInt, Sem.run_pure]
            · cases h
          · rename_i hf
            split at h
            · rename_i z hz
              cases h
              obtain ⟨zv, zr, rfl, _⟩ := run_zero (P := P) (w := w) hz
              obtain ⟨r', a1, a2⟩ := findKey_rel (P := P) (w := w) hh hkt hk e2 hf
              cases r' with
              | some y => exact a2.elim
              | none =>
                obtain ⟨w', z1, z2, z3⟩ := putMap (P := P) (c' := clock + 1) (ents' := ents ++ [⟨kv, zv, clock⟩]) hh hi hg e1 (e2.append (show EntsRel μ [⟨k, absV zv, clock⟩] [⟨kv, zv, clock⟩] from ⟨_, _, rfl, ⟨hk, absV_rel μ zv, rfl⟩, rfl⟩))
                refine ⟨μ, w', .tuple #[zv, .int .i64 (clock : Int)], ?_, ⟨_, rfl, _, _, rfl, absV_rel μ zv, _, _, rfl, rfl, rfl⟩, z2, z3⟩
                simp only [Instr.mapEntry, Sem.run_bind, run_und hu, Result.andThen_ok, e3, checkKey_ok hkt hk, a1, zr, List.push_toArray, z1, goInt, Sem.run_pure]
            · cases h
          · cases h
        · cases h
      · cases h
    · cases h
  · cases h

theorem born_rel {born : Int} : ∀ (es : List AEnt) (ents : List MapEntry) (i j : Nat) (e : AEnt), EntsRel μ es ents → bornA born es i = some (j, e) → i ≤ j ∧ es[j - i]? = some e ∧ ents.findIdx? (fun m => (m.born : Int) == born) = some (j - i)
  | [], _, i, j, e, _, h => by simp [bornA] at h
  | x :: es, _, i, j, e, ⟨m, ms, e1, e2, e3⟩, h => by
    subst e1
    simp only [bornA] at h
    have hb : eqI (Int.ofNat x.born) born = ((m.born : Int) == born) := by rw [e2.2.2]; rfl
    split at h
    · rename_i hs
      cases h
      rw [hb] at hs
      exact ⟨Nat.le_refl _, by simp, by simp [List.findIdx?_cons, hs]⟩
    · rename_i hs
      rw [hb] at hs
      obtain ⟨q1, q2, q3⟩ := born_rel es ms (i + 1) j e e3 h
      have : j - i = (j - (i + 1)) + 1 := by omega
      refine ⟨by omega, by rw [this]; simpa using q2, ?_⟩
      rw [this]
      simp [List.findIdx?_cons, hs, q3]
theorem entStore_ok (hh : HRel μ H w) {t : TypeId} {m s x : AV} {mv sv xv : Value} (hm : VRel μ m mv) (hs : VRel μ s sv) (hx : VRel μ x xv) {H' : AHeap} (h : entStoreA H m s x = some H') :
    ∃ w', (Instr.entryStore t mv sv xv).run P w = .ok () w' ∧ HRel μ H' w' ∧ Adv μ H w μ H' w' := by
  unfold entStoreA at h
  split at h
  · rename_i r kk born
    split at h
    · rename_i es clock hg
      split at h
      · rename_i j en hb
        cases h
        cases hs
        obtain ⟨i, hi, rfl⟩ := hm
        obtain ⟨ents, e1, e2, e3⟩ := getMap (P := P) hh hi hg
        obtain ⟨_, q1, q2⟩ := born_rel es ents 0 j en e2 hb
        obtain ⟨mn, p1, p2⟩ := e2.get (by simpa using q1)
        have hmod : EntsRel μ (setEnt x en.key j es) (ents.modify j fun e => { e with val := xv }) := by
          have hs := e2.set (v := x) (vv := xv) (key := en.key) (kv := mn.key) hx p2.1 j
          have : (ents.modify j fun e => { e with key := mn.key, val := xv }) = (ents.modify j fun e => { e with val := xv }) := by
            apply List.ext_getElem?
            intro q
            rw [List.getElem?_modify, List.getElem?_modify]
            by_cases hq : j = q
            · subst hq; rw [p1]; simp
            · simp [hq]
          rw [← this]; exact hs
        obtain ⟨w', z1, z2, z3⟩ := putMap (P := P) (c' := clock) hh hi hg e1 hmod
        refine ⟨w', ?_, z2, z3⟩
        have hfi : (⟨ents⟩ : Array MapEntry).findIdx? (fun e => (e.born : Int) == born) = some j := by
          have := q2
          simp only [Nat.sub_zero] at this
          rw [← this]; simp
        simp only [Instr.entryStore, Sem.run_bind, Result.andThen_ok, e3, asInt, asIntOf, Sem.run_pure, hfi, ents_modify, z1]
      · cases h
    · cases h
  · cases h

theorem delete_ok (hh : HRel μ H w) {argTypes : Array TypeId} {ty t : TypeId} (h0 : argTypes[0]? = some t) {m k : AV} {mv kv : Value} (hm : VRel μ m mv) (hk : VRel μ k kv) {v : AV} {H' : AHeap} (h : deleteA P H t m k = some (v, H')) :
    ValOK P μ H w (Builtin.delete_ argTypes ty #[mv, kv]) v H' := by
  unfold deleteA at h
  split at h
  · rename_i kt et hu
    split at h
    · rename_i hkt
      split at h
      · cases h; cases hm
        refine .same hh (v' := .tuple #[]) ?_ ⟨[], rfl, rfl⟩
        simp [Builtin.delete_, h0, run_und hu, checkKey_ok hkt hk]
      · rename_i r
        split at h
        · rename_i es clock hg
          obtain ⟨i, hi, rfl⟩ := hm
          obtain ⟨ents, e1, e2, e3⟩ := getMap (P := P) hh hi hg
          split at h
          · rename_i j a hf
            cases h
            obtain ⟨r', a1, a2⟩ := findKey_rel (P := P) (w := w) hh hkt hk e2 hf
            cases r' with
            | none => exact a2.elim
            | some y =>
              obtain ⟨j', u⟩ := y
              obtain ⟨rfl, hau⟩ := a2
              obtain ⟨w', z1, z2, z3⟩ := putMap (P := P) (c' := clock) hh hi hg e1 (e2.del j)
              refine ⟨μ, w', .tuple #[], ?_, ⟨[], rfl, rfl⟩, z2, z3⟩
              have he : (⟨ents⟩ : Array MapEntry).eraseIdxIfInBounds j = ⟨ents.eraseIdx j⟩ := by
                apply Array.ext'
                simp
              simp [Builtin.delete_, h0, run_und hu, checkKey_ok hkt hk, e3, a1, he, z1]
          · rename_i hf
            cases h
            obtain ⟨r', a1, a2⟩ := findKey_rel (P := P) (w := w) hh hkt hk e2 hf
            cases r' with
            | some y => exact a2.elim
            | none =>
              obtain ⟨w', z1, z2, z3⟩ := putMap (P := P) (c' := clock) hh hi hg e1 e2
              refine ⟨μ, w', .tuple #[], ?_, ⟨[], rfl, rfl⟩, z2, z3⟩
              simp [Builtin.delete_, h0, run_und hu, checkKey_ok hkt hk, e3, a1, z1]
          · cases h
        · cases h
      · cases h
    · cases h
  · cases h

theorem makeMap_ok (hh : HRel μ H w) {t : TypeId} : ValOK P μ H w (Instr.makeMap t none) (.map H.n) (H.push (.map [] 0)) := by
  obtain ⟨r1, r2⟩ := hh.alloc (.map [] 0) (.map #[] 0) 0 ⟨[], World.heap_alloc_new _ _, rfl⟩
  exact ⟨_, _, .map (some w.heap.size), rfl, ⟨_, upd_same _ _ _, rfl⟩, r1, r2⟩
theorem makeMap_ok' (hh : HRel μ H w) {t kt et : TypeId} {k : IntKind} {n : Int} (hu : P.underlying t = some (.map kt et)) : ValOK P μ H w (Instr.makeMap t (some (.int k n))) (.map H.n) (H.push (.map [] 0)) := by
  obtain ⟨r1, r2⟩ := hh.alloc (.map [] 0) (.map #[] 0) 0 ⟨[], World.heap_alloc_new _ _, rfl⟩
  refine ⟨_, _, .map (some w.heap.size), ?_, ⟨_, upd_same _ _ _, rfl⟩, r1, r2⟩
  simp only [Instr.makeMap, Sem.run_bind, run_und hu, Result.andThen_ok, asInt, asIntOf, Sem.run_pure, run_newObj]
  rfl

-- ranges

theorem range_str_ok (hh : HRel μ H w) {t : TypeId} (hu : P.underlying t = some .string) {s : List UInt8} {xv : Value} (hx : VRel μ (.str s) xv) : ValOK P μ H w (Instr.range t xv) (.ptr H.n 0) (H.push (.strIter s 0)) := by
  obtain ⟨bs, rfl, rfl⟩ := hx
  obtain ⟨r1, r2⟩ := hh.alloc (.strIter bs.data.toList 0) (.stringIter bs 0) 0 ⟨rfl, bs, World.heap_alloc_new _ _, rfl⟩
  refine ⟨_, _, .pointer (some ⟨w.heap.size, 0, none⟩), ?_, ⟨_, upd_same _ _ _, rfl⟩, r1, r2⟩
  simp only [Instr.range, Sem.run_bind, run_und hu, Result.andThen_ok, Sem.run_pure, run_newObj]
  rfl
theorem range_nil_ok (hh : HRel μ H w) {t kt et : TypeId} (hu : P.underlying t = some (.map kt et)) {xv : Value} (hx : VRel μ .nilM xv) : ValOK P μ H w (Instr.range t xv) (.ptr H.n 0) (H.push (.mapIter none 0 [] 0)) := by
  cases hx
  obtain ⟨r1, r2⟩ := hh.alloc (.mapIter none 0 [] 0) (.mapIter none 0 #[] 0) 0 ⟨rfl, World.heap_alloc_new _ _⟩
  refine ⟨_, _, .pointer (some ⟨w.heap.size, 0, none⟩), ?_, ⟨_, upd_same _ _ _, rfl⟩, r1, r2⟩
  simp only [Instr.range, Sem.run_bind, run_und hu, Result.andThen_ok, Sem.run_pure, run_newObj]
  rfl

def decodeW (at' : Nat → Nat) (lt : Nat → Bool) : Nat × Nat :=
  let cont (k : Nat) : Bool := lt k && at' k / 64 == 2
  let b0 := at' 0
  if b0 < 0x80 then (b0, 1)
  else if b0 / 32 == 6 && cont 1 then
    let c := (b0 % 32) * 64 + at' 1 % 64
    if c ≥ 0x80 then (c, 2) else (Utf8.runeError, 1)
  else if b0 / 16 == 14 && cont 1 && cont 2 then
    let c := (b0 % 16) * 4096 + (at' 1 % 64) * 64 + at' 2 % 64
    if c ≥ 0x800 && Utf8.valid c then (c, 3) else (Utf8.runeError, 1)
  else if b0 / 8 == 30 && cont 1 && cont 2 && cont 3 then
    let c := (b0 % 8) * 262144 + (at' 1 % 64) * 4096 + (at' 2 % 64) * 64 + at' 3 % 64
    if c ≥ 0x10000 && Utf8.valid c then (c, 4) else (Utf8.runeError, 1)
  else (Utf8.runeError, 1)
theorem decode_eq (s : ByteArray) (i : Nat) : Utf8.decode s i = decodeW (fun k => (s.get! (i + k)).toNat) (fun k => decide (i + k < s.size)) := rfl
theorem decode_drop (full : ByteArray) (pos : Nat) (hp : pos ≤ full.size) : Utf8.decode full pos = Utf8.decode ⟨(full.data.toList.drop pos).toArray⟩ 0 := by
  have hfs : full.data.toList.length = full.size := Array.length_toList
  have hsz : (⟨(full.data.toList.drop pos).toArray⟩ : ByteArray).size = full.size - pos := by
    show ((full.data.toList.drop pos).toArray).size = _
    rw [List.size_toArray, List.length_drop, hfs]
  have hget : ∀ k, full.get! (pos + k) = (⟨(full.data.toList.drop pos).toArray⟩ : ByteArray).get! (0 + k) := fun k => by
    show full.data[pos + k]! = ((full.data.toList.drop pos).toArray)[0 + k]!
    rw [Nat.zero_add]
    rw [getElem!_def, getElem!_def]
    have : ((full.data.toList.drop pos).toArray)[k]? = full.data[pos + k]? := by
      rw [List.getElem?_toArray, List.getElem?_drop, Array.getElem?_toList]
    rw [this]
  rw [decode_eq, decode_eq]
  have ha : (fun k => (full.get! (pos + k)).toNat) = (fun k => ((⟨(full.data.toList.drop pos).toArray⟩ : ByteArray).get! (0 + k)).toNat) := by
    funext k; rw [hget k]
  have hb : (fun k => decide (pos + k < full.size)) = (fun k => decide (0 + k < (⟨(full.data.toList.drop pos).toArray⟩ : ByteArray).size)) := by
    funext k
    exact decide_eq_decide.2 (by rw [hsz]; omega)
  rw [ha, hb]

theorem next_str_ok (hh : HRel μ H w) {t : TypeId} {it : AV} {iv : Value} (hi : VRel μ it iv) {b : Bool} {v : AV} {H' : AHeap} (h : nextA H it b = some (v, H')) : ValOK P μ H w (Instr.next iv b t) v H' := by
  unfold nextA at h
  split at h
  · rename_i r
    obtain ⟨i, him, rfl⟩ := hi
    split at h
    · rename_i s pos hg
      obtain ⟨e0, full, e1, e2⟩ := hh.rel _ _ i hg him
      obtain ⟨ib, i0, isz⟩ := i
      simp only at e0; subst e0
      have hget : (getObj ib).run P w = .ok (.stringIter full pos) w := by simp [getObj, Sem.run, e1]
      have hfs : full.data.toList.length = full.size := Array.length_toList
      have hdl := congrArg List.length e2
      rw [List.length_drop, hfs] at hdl
      split at h
      · cases h
        have hn : ¬ pos < full.size := by simp at hdl; omega
        exact .same hh (v' := .tuple #[.bool false]) (by simp [Instr.next, hget, hn]) ⟨_, rfl, _, _, rfl, rfl, rfl⟩
      · rename_i hne
        have hlt : pos < full.size := by
          rcases Nat.lt_or_ge pos full.size with h | h
          · exact h
          · exfalso; apply hne
            exact List.length_eq_zero_iff.1 (by omega)
        have hdec : Utf8.decode full pos = decodeL s := by rw [decode_drop full pos (by omega), e2]; rfl
        generalize decodeL s = cw at hdec h
        obtain ⟨c, wd⟩ := cw
        cases h
        have hltb : ib < w.heap.size := (hh.lt _ _ him).2
        obtain ⟨r1, r2⟩ := hh.update (w' := { w with heap := w.heap.setIfInBounds ib (.stringIter full (pos + wd)) }) (o' := .strIter (dropN wd s) (pos + wd)) hg rfl him (by simp) (fun r hr => by simp [Array.getElem?_setIfInBounds]; intro e; exact absurd e.symm hr) rfl rfl rfl
          ⟨rfl, full, by simp [hltb], by rw [dropN_eq, ← e2, List.drop_drop]⟩
        refine ⟨μ, _, .tuple #[.bool true, .int .i64 (pos : Int), .int .i32 (c : Int)], ?_, ⟨_, rfl, _, _, rfl, rfl, _, _, rfl, rfl, _, _, rfl, rfl, rfl⟩, r1, r2⟩
        have hset : (setObj ib (.stringIter full (pos + wd))).run P w = .ok () { w with heap := w.heap.setIfInBounds ib (.stringIter full (pos + wd)) } := by simp [setObj, Sem.run, e1]
        simp [Instr.next, hget, hlt, hdec, hset, goInt]
    · rename_i since seen last hg
      cases h
      obtain ⟨e0, e1⟩ := hh.rel _ _ i hg him
      obtain ⟨ib, i0, isz⟩ := i
      simp only at e0; subst e0
      have e1' : w.heap[ib]? = some (.mapIter none since ⟨seen⟩ last) := e1
      have hget : (getObj ib).run P w = .ok (.mapIter none since ⟨seen⟩ last) w := by simp [getObj, Sem.run, e1']
      exact .same hh (v' := .tuple #[.bool false]) (by simp [Instr.next, hget]) ⟨_, rfl, _, _, rfl, rfl, rfl⟩
    · cases h
  · cases h
theorem findBorn_rel : ∀ (es : List AEnt) (ms : List MapEntry) (b : Nat) (e : AEnt), EntsRel μ es ms → findBorn b es = some e → ∃ m, ms.find? (fun x => x.born == b) = some m ∧ EntRel μ e m
  | [], ms, b, e, hr, h => by simp [findBorn] at h
  | x :: es, ms, b, e, hr, h => by
    obtain ⟨m, ms', rfl, h1, h2⟩ := hr
    unfold findBorn at h
    rw [List.find?_cons, ← h1.2.2]
    cases hb : Nat.beq x.born b with
    | true =>
      rw [hb] at h
      cases h
      have : x.born = b := Nat.eq_of_beq_eq_true hb
      rw [this]
      simp only [beq_self_eq_true]
      exact ⟨m, rfl, h1⟩
    | false =>
      rw [hb] at h
      have : (x.born == b) = false := by
        cases hc : x.born == b with
        | false => rfl
        | true => rw [beq_iff_eq.1 hc] at hb; rw [Nat.beq_refl] at hb; cases hb
      rw [this]
      exact findBorn_rel es ms' b e h2 h
theorem lastN_eq : ∀ (l : List Nat), lastN l = l.getLast?
  | [] => rfl
  | [b] => rfl
  | a :: b :: l => by
    show lastN (b :: l) = _
    rw [lastN_eq (b :: l), List.getLast?_cons_cons]
theorem entry_ok (hh : HRel μ H w) {it : AV} {iv : Value} (hi : VRel μ it iv) {v : AV} (h : entryA H it = some v) : ValOK P μ H w (Instr.entry iv) v H := by
  unfold entryA at h
  split at h
  · rename_i r
    obtain ⟨i, him, rfl⟩ := hi
    split at h
    · rename_i m since seen last hg
      obtain ⟨e0, j, hj, e1⟩ := hh.rel _ _ i hg him
      obtain ⟨ib, i0, isz⟩ := i
      simp only at e0; subst e0
      have e1' : w.heap[ib]? = some (.mapIter (some j.blk) since ⟨seen⟩ last) := e1
      split at h
      · rename_i es clock b hgm hls
        obtain ⟨ents, f1, f2⟩ := hh.rel _ _ j hgm hj
        split at h
        · rename_i hcl
          have hcl : clock = last := Nat.eq_of_beq_eq_true hcl
          split at h
          · rename_i e hfb
            cases h
            obtain ⟨me, g1, g2⟩ := findBorn_rel es ents b e f2 hfb
            have hget : (getObj ib).run P w = .ok (.mapIter (some j.blk) since ⟨seen⟩ last) w := by simp [getObj, Sem.run, e1']
            have hget2 : (getObj j.blk).run P w = .ok (.map ⟨ents⟩ clock) w := by simp [getObj, Sem.run, f1]
            have hbk : (⟨seen⟩ : Array Nat).back? = some b := by
              rw [← hls, lastN_eq]; simp
            have hfd : (⟨ents⟩ : Array MapEntry).find? (fun x => x.born == b) = some me := by rw [← g1]; simp
            refine .same hh (v' := .tuple #[me.key, me.val]) ?_ ⟨_, rfl, _, _, rfl, g2.1, _, _, rfl, g2.2.1, rfl⟩
            have hne : (clock != last) = false := by simp [hcl]
            simp only [Instr.entry, Sem.run_bind, hget, Result.andThen_ok, hbk, hget2, hne, Bool.false_eq_true, if_false, hfd]
            rfl
          · cases h
        · cases h
      · cases h
    · cases h
  · cases h
end
end AEv

/-
  THE ABSTRACT EVALUATOR: operations, ninth part: one operand's operations, conversions, equality as an operation, interfaces, strings out of memory.
-/
namespace AEv
open Go

section
variable {P : Program} {μ : Mu} {H : AHeap} {w : World}

theorem int_arith_xor (k : IntKind) (x y : Int) {v : AV} (h : arith .xor k x y = some v) : ∃ u, (Op.intBits .xor k x y).run P w = .ok u w ∧ VRel μ v u := by
  simp only [arith] at h; cases h; exact ⟨_, rfl, rfl⟩
theorem unOp_not {x : Value} {b : Bool} (hx : VRel μ (.bool b) x) : ∃ u, (Op.unary .not x).run P w = .ok u w ∧ VRel μ (.bool (!b)) u := by
  cases hx; exact ⟨_, rfl, rfl⟩
theorem unOp_neg {x : Value} {k : IntKind} {n : Int} (hx : VRel μ (.int k n) x) : ∃ u, (Op.unary .neg x).run P w = .ok u w ∧ VRel μ (.int k (k.wrap (0 - n))) u := by
  cases hx; exact ⟨_, rfl, rfl⟩
theorem unOp_xor {x : Value} {k : IntKind} {n : Int} {v : AV} (hx : VRel μ (.int k n) x) (h : arith .xor k (if k.signed then -1 else k.max) n = some v) : ∃ u, (Op.unary .xor x).run P w = .ok u w ∧ VRel μ v u := by
  cases hx; exact int_arith_xor k _ n h

-- equality as an operation

def numLike : Value → Bool
  | .int _ _ | .float _ _ | .complex _ _ _ | .string _ => true
  | _ => false
theorem binOp_eql (t : TypeId) {x y : Value} (h : numLike x = false) : binOp .eql t x y = (do pure (.bool (← Op.equal t x y))) := by
  cases x <;> simp [numLike] at h <;> cases y <;> rfl
theorem binOp_neq (t : TypeId) {x y : Value} (h : numLike x = false) : binOp .neq t x y = (do pure (.bool (!(← Op.equal t x y)))) := by
  cases x <;> simp [numLike] at h <;> cases y <;> rfl

theorem eqA_shape : ∀ {d : Nat} {t : TypeId} {x y : AV} {b : Bool} {xv : Value}, eqA P H d t x y = some b → (∀ j a k c, ¬ (x = .int j a ∧ y = .int k c)) → (∀ a c, ¬ (x = .str a ∧ y = .str c)) → VRel μ x xv → numLike xv = false := by
  intro d t x y b xv h hi hs hx
  cases d with
  | zero => simp [eqA] at h
  | succ d =>
    cases x with
    | bad => unfold eqA at h; split at h <;> simp at h
    | int j a =>
      unfold eqA at h
      split at h
      all_goals first
        | (cases y <;> simp at h; done)
        | (cases y <;> simp at h; exact absurd ⟨rfl, rfl⟩ (hi _ _ _ _))
        | cases h
    | str a =>
      unfold eqA at h
      split at h
      all_goals first
        | (cases y <;> simp at h; done)
        | (cases y <;> simp at h; exact absurd ⟨rfl, rfl⟩ (hs _ _))
        | cases h
    | bool b => cases hx; rfl
    | nilP => cases hx; rfl
    | ptr b off => obtain ⟨i, _, rfl⟩ := hx; rfl
    | nilS => cases hx; rfl
    | slice b off n c =>
      obtain ⟨i, _, hc⟩ := hx
      cases c with
      | exact c => cases hc; rfl
      | opn esz => obtain ⟨c, rfl, _⟩ := hc; rfl
      | dead => obtain ⟨_, a, c, rfl⟩ := hc; rfl
    | nilM => cases hx; rfl
    | map r => obtain ⟨i, _, rfl⟩ := hx; rfl
    | nilF => cases hx; rfl
    | fn f a b => obtain ⟨_, _, rfl, _⟩ := hx; rfl
    | yld l => obtain ⟨i, _, rfl⟩ := hx; rfl
    | nilI => cases hx; rfl
    | iface t x => obtain ⟨_, rfl, _⟩ := hx; rfl
    | agg cs => obtain ⟨_, rfl, _⟩ := hx; rfl
    | tup cs => obtain ⟨_, rfl, _⟩ := hx; rfl

theorem eqGuard_other {op : BinOp} (h : op ≠ .eql) (h' : op ≠ .neq) (t : TypeId) (xo yo : Operand) (a b : Value) : (eqGuard op t xo yo a b).run P w = .ok () w := by
  cases op <;> first | exact absurd rfl h | exact absurd rfl h' | simp [eqGuard]
def gshape : Value → Nat
  | .nilIface => 1
  | .agg _ => 2
  | _ => 0
theorem eqGuard_rest {op : BinOp} (hop : op = .eql ∨ op = .neq) {t : TypeId} {xo yo : Operand} {a b : Value} (h : gshape a = 0 ∨ gshape a ≠ gshape b) : (eqGuard op t xo yo a b).run P w = .ok () w := by
  rcases hop with rfl | rfl <;> (cases a <;> first | rfl | (cases b <;> first | rfl | simp [gshape] at h))
def ashape : AV → Nat
  | .nilI => 1
  | .agg _ => 2
  | _ => 0
theorem shape_eq {x : AV} {a : Value} (hx : VRel μ x a) (hb : x ≠ .bad) : gshape a = ashape x := by
  cases x with
  | bad => exact absurd rfl hb
  | bool b => cases hx; rfl
  | int k n => cases hx; rfl
  | str s => obtain ⟨_, rfl, _⟩ := hx; rfl
  | nilP => cases hx; rfl
  | ptr b off => obtain ⟨i, _, rfl⟩ := hx; rfl
  | nilS => cases hx; rfl
  | slice b off n c =>
    obtain ⟨i, _, hc⟩ := hx
    cases c with
    | exact c => cases hc; rfl
    | opn esz => obtain ⟨c, rfl, _⟩ := hc; rfl
    | dead => obtain ⟨_, a, c, rfl⟩ := hc; rfl
  | nilM => cases hx; rfl
  | map r => obtain ⟨i, _, rfl⟩ := hx; rfl
  | nilF => cases hx; rfl
  | fn f a b => obtain ⟨_, _, rfl, _⟩ := hx; rfl
  | yld l => obtain ⟨i, _, rfl⟩ := hx; rfl
  | nilI => cases hx; rfl
  | iface t x => obtain ⟨_, rfl, _⟩ := hx; rfl
  | agg cs => obtain ⟨_, rfl, _⟩ := hx; rfl
  | tup cs => obtain ⟨_, rfl, _⟩ := hx; rfl
theorem eqGuard_ok {op : BinOp} (hop : op = .eql ∨ op = .neq) {t : TypeId} {xo yo : Operand} {x y : AV} {a b : Value} (hx : VRel μ x a) (hy : VRel μ y b) (hxb : x ≠ .bad) (hyb : y ≠ .bad) (h : eqOK P t xo yo x y = true) :
    (eqGuard op t xo yo a b).run P w = .ok () w := by
  have sa := shape_eq hx hxb
  have sb := shape_eq hy hyb
  by_cases hr : gshape a = 0 ∨ gshape a ≠ gshape b
  · exact eqGuard_rest hop hr
  · have h1 : ashape x ≠ 0 := fun e => hr (.inl (sa.trans e))
    have h2 : ashape x = ashape y := by
      rw [← sa, ← sb]; exact Classical.byContradiction fun e => hr (.inr e)
    cases x <;> simp [ashape] at h1
    · cases y <;> simp [ashape] at h2
      cases hx; cases hy
      simp only [eqOK] at h
      rcases hop with rfl | rfl <;> (cases xo <;> cases yo <;> first | rfl | simp at h)
    · cases y <;> simp [ashape] at h2
      obtain ⟨l1, rfl, _⟩ := hx
      obtain ⟨l2, rfl, _⟩ := hy
      simp only [eqOK, Bool.not_eq_true'] at h
      rcases hop with rfl | rfl <;> simp [eqGuard, h]
theorem eqA_bad {d : Nat} {t : TypeId} {x y : AV} {b : Bool} (h : eqA P H d t x y = some b) : x ≠ .bad ∧ y ≠ .bad := by
  cases d with
  | zero => simp [eqA] at h
  | succ d =>
    constructor
    · rintro rfl; unfold eqA at h; split at h <;> simp at h
    · rintro rfl; unfold eqA at h; split at h <;> (try cases x) <;> simp at h

theorem binA_ok (hh : HRel μ H w) {op : BinOp} {t yt : TypeId} {xo yo : Operand} {x y v : AV} {xv yv : Value} (hx : VRel μ x xv) (hy : VRel μ y yv) (h : binA P H op t xo yo x y = some v) :
    ∃ u, (do eqGuard op t xo yo xv yv; binOp op t xv yv : Sem Value).run P w = .ok u w ∧ VRel μ v u := by
  unfold binA at h
  split at h
  · rename_i k a k' b
    cases hx; cases hy
    have hg : (eqGuard op t xo yo (.int k a) (.int k' b)).run P w = .ok () w := by
      by_cases hop : op = .eql ∨ op = .neq
      · exact eqGuard_rest hop (.inl rfl)
      · exact eqGuard_other (fun e => hop (.inl e)) (fun e => hop (.inr e)) t xo yo _ _
    simp only [Sem.run_bind, hg, Result.andThen_ok]
    split at h
    · exact shift_ok h t
    · exact shift_ok h t
    · rename_i h1 h2
      split at h
      · rename_i hk; subst hk
        exact arith_ok h ⟨h1, h2⟩ t
      · cases h
  · rename_i a b
    obtain ⟨s1, rfl, rfl⟩ := hx
    obtain ⟨s2, rfl, rfl⟩ := hy
    have hg : (eqGuard op t xo yo (.string s1) (.string s2)).run P w = .ok () w := by
      by_cases hop : op = .eql ∨ op = .neq
      · exact eqGuard_rest hop (.inl rfl)
      · exact eqGuard_other (fun e => hop (.inl e)) (fun e => hop (.inr e)) t xo yo _ _
    simp only [Sem.run_bind, hg, Result.andThen_ok]
    exact str_ok h t
  · rename_i hni hns
    split at h
    · split at h
      · rename_i hok
        split at h
        · rename_i b he
          cases h
          obtain ⟨b1, b2⟩ := eqA_bad he
          have hg := eqGuard_ok (w := w) (op := .eql) (.inl rfl) hx hy b1 b2 hok
          have hn : numLike xv = false := eqA_shape he (fun j a k c e => hni j a k c e.1 e.2) (fun a c e => hns a c e.1 e.2) hx
          have hr := eqA_rel (P := P) hh 100 t x y b xv yv Op.maxDepth (by decide) he hx hy
          refine ⟨.bool b, ?_, rfl⟩
          simp only [Sem.run_bind, hg, Result.andThen_ok, binOp_eql t hn, Op.equal, hr, Sem.run_pure]
        · cases h
      · cases h
    · split at h
      · rename_i hok
        split at h
        · rename_i b he
          cases h
          obtain ⟨b1, b2⟩ := eqA_bad he
          have hg := eqGuard_ok (w := w) (op := .neq) (.inr rfl) hx hy b1 b2 hok
          have hn : numLike xv = false := eqA_shape he (fun j a k c e => hni j a k c e.1 e.2) (fun a c e => hns a c e.1 e.2) hx
          have hr := eqA_rel (P := P) hh 100 t x y b xv yv Op.maxDepth (by decide) he hx hy
          refine ⟨.bool (!b), ?_, rfl⟩
          simp only [Sem.run_bind, hg, Result.andThen_ok, binOp_neq t hn, Op.equal, hr, Sem.run_pure]
        · cases h
      · cases h
    · cases h

-- interfaces

theorem makeInterface_ok {t : TypeId} {d : TypeDesc} (hu : P.underlying t = some d) (hni : ∀ m, d ≠ .interface m) {x : AV} {xv : Value} (hx : VRel μ x xv) :
    (Instr.makeInterface t xv).run P w = .ok (.iface t xv) w := by
  simp only [Instr.makeInterface, Sem.run_bind, run_und hu, Result.andThen_ok]
  cases d <;> first | rfl | exact absurd rfl (hni _)

theorem typeAssert_ok {xT as : TypeId} {ok : Bool} {d : TypeDesc} (hu : P.underlying as = some d) (hni : ∀ m, d ≠ .interface m) {x : AV} {xv : Value} (hx : VRel μ x xv) :
    (∀ z, x = .nilI → ok = true → zeroT P as = some z → ∃ u, (Instr.typeAssert xv xT as ok).run P w = .ok u w ∧ VRel μ (.tup [z, .bool false]) u) ∧
    (∀ v, x = .iface as v → ∃ u, (Instr.typeAssert xv xT as ok).run P w = .ok u w ∧ VRel μ (if ok then .tup [v, .bool true] else v) u) ∧
    (∀ t v z, x = .iface t v → t ≠ as → ok = true → zeroT P as = some z → ∃ u, (Instr.typeAssert xv xT as ok).run P w = .ok u w ∧ VRel μ (.tup [z, .bool false]) u) := by
  refine ⟨fun z hx0 hok hz => ?_, fun v hx0 => ?_, fun t v z hx0 hne hok hz => ?_⟩
  · subst hx0; cases hx; subst hok
    obtain ⟨zv, zr, rfl, _⟩ := run_zero (P := P) (w := w) hz
    refine ⟨.tuple #[zv, .bool false], ?_, ⟨_, rfl, _, _, rfl, absV_rel μ zv, _, _, rfl, rfl, rfl⟩⟩
    simp only [Instr.typeAssert, Sem.run_bind, run_und hu, Result.andThen_ok]
    cases d <;> first | exact absurd rfl (hni _) | simp [zr]
  · subst hx0; obtain ⟨y, rfl, hy⟩ := hx
    refine ⟨if ok then .tuple #[y, .bool true] else y, ?_, ?_⟩
    · simp only [Instr.typeAssert, Sem.run_bind, run_und hu, Result.andThen_ok]
      cases d <;> first | exact absurd rfl (hni _) | simp
    · cases ok
      · exact hy
      · exact ⟨_, rfl, _, _, rfl, hy, _, _, rfl, rfl, rfl⟩
  · subst hx0; obtain ⟨y, rfl, hy⟩ := hx; subst hok
    obtain ⟨zv, zr, rfl, _⟩ := run_zero (P := P) (w := w) hz
    refine ⟨.tuple #[zv, .bool false], ?_, ⟨_, rfl, _, _, rfl, absV_rel μ zv, _, _, rfl, rfl, rfl⟩⟩
    simp only [Instr.typeAssert, Sem.run_bind, run_und hu, Result.andThen_ok]
    cases d <;> first | exact absurd rfl (hni _) | simp [zr, hne]

theorem extract_ok {vs : List AV} {x : Value} {i : Nat} {v : AV} (hx : VRel μ (.tup vs) x) (h : nth i vs = some v) : ∃ u, (Instr.extract x i).run P w = .ok u w ∧ VRel μ v u := by
  obtain ⟨l, rfl, hl⟩ := hx
  rw [nth_eq] at h
  obtain ⟨u, hu, hr⟩ := hl.get h
  refine ⟨u, ?_, hr⟩
  simp [Instr.extract, hu]

-- pointers seen as others

theorem run_viewAt {r el : Nat} {c : Array Value} {fr : Nat × Nat} (h : w.heap[r]? = some (.cells c el fr)) : (viewAt r).run P w = .ok none w := by
  simp [viewAt, World.shape?, h]
theorem toUnsafe_ok (hh : HRel μ H w) {src dst u : TypeId} {b off n : Nat} {cs : List AV} {el lo hi : Nat} {k : BK} (hs : P.underlying src = some (.pointer u)) (hd : P.underlying dst = some .unsafePointer)
    (hz : sizeT P u = some (n + 1)) (hg : H.get b = some (.cells cs el k lo hi)) (hlt : off < cs.length) {x : Value} (hx : VRel μ (.ptr b off) x) : (convert src dst x).run P w = .ok x w := by
  obtain ⟨i, hi, rfl⟩ := hx
  obtain ⟨c, flo, fhi, e1, e2, e3, e4⟩ := hh.rel _ _ i hg hi
  obtain ⟨v, hv⟩ : ∃ v, cs[off]? = some v := ⟨_, List.getElem?_eq_getElem hlt⟩
  obtain ⟨uu, hu, _⟩ := e2 off v hv
  have hin : i.base + off < c.size := by
    rcases Nat.lt_or_ge (i.base + off) c.size with h | h
    · exact h
    · rw [Array.getElem?_eq_none h] at hu; cases hu
  have hsa : (Conv.seenAt ⟨i.blk, i.base + off, none⟩).run P w = .ok ⟨i.blk, i.base + off, none⟩ w := by
    simp [Conv.seenAt, run_viewAt e1]
  have hci : (cellsIn i.blk).run P w = .ok (some c.size) w := by simp [cellsIn, World.shape?, e1]
  have hnot : ¬ (c.size ≤ i.base + off) := by omega
  simp [convert, run_und hs, run_und hd, Conv.unsafePointer, hsa, hci, run_sizeOf hz, hnot]
theorem fromUnsafe_ok (hh : HRel μ H w) {src dst u : TypeId} {b off n : Nat} {cs : List AV} {el lo hi : Nat} (hs : P.underlying src = some .unsafePointer) (hd : P.underlying dst = some (.pointer u))
    (hz : sizeT P u = some (n + 1)) (hg : H.get b = some (.cells cs el .own lo hi)) (hl : liesAt P P.depth el (cs.length / P.cellsOf el) off u 1 = true) {x : Value} (hx : VRel μ (.ptr b off) x) : (convert src dst x).run P w = .ok x w := by
  obtain ⟨i, hi, rfl⟩ := hx
  obtain ⟨c, flo, fhi, e1, e2, e3, e4, e5, _⟩ := hh.rel _ _ i hg hi
  have hc : c.size = cs.length := by omega
  have hsa : (Conv.seenAt ⟨i.blk, i.base + off, none⟩).run P w = .ok ⟨i.blk, i.base + off, none⟩ w := by
    simp [Conv.seenAt, run_viewAt e1]
  have hva : (variablesAt ⟨i.blk, i.base + off, none⟩ u 1).run P w = .ok true w := by
    simp [variablesAt, World.shape?, e1, e4, hc, hl]
  simp [convert, run_und hs, run_und hd, Conv.unsafePointer, hsa, run_sizeOf hz, hva]
end
end AEv

/-
  THE ABSTRACT EVALUATOR: operations, tenth part: strings out of memory; calls.
-/
namespace AEv
open Go

section
variable {P : Program} {μ : Mu} {H : AHeap} {w : World}

theorem loadBytes_rel (hh : HRel μ H w) {b : Nat} {i : Img} (hi : μ b = some i) {cs : List AV} {el lo hi' : Nat} {k : BK} (hg : H.get b = some (.cells cs el k lo hi')) :
    ∀ (n off : Nat) (r : List AV) (bs : List UInt8) (acc : ByteArray), takeN n (dropN off cs) = some r → cellBytes r = some bs →
      (loadBytes ⟨i.blk, i.base + off, none⟩ acc n).run P w = .ok ⟨acc.data ++ bs.toArray⟩ w
  | 0, off, r, bs, acc, h, hb => by
    simp only [takeN] at h; cases h
    simp only [cellBytes] at hb; cases hb
    simp [loadBytes]
  | n + 1, off, r, bs, acc, h, hb => by
    rw [dropN_eq] at h
    cases hd : cs.drop off with
    | nil => rw [hd] at h; simp [takeN] at h
    | cons a l =>
      rw [hd] at h
      simp only [takeN] at h
      cases ht : takeN n l with
      | none => rw [ht] at h; cases h
      | some r' =>
        rw [ht] at h; cases h
        unfold cellBytes at hb
        split at hb
        · rename_i heq; cases heq
        · rename_i m l' heq
          cases heq
          split at hb
          · rename_i bs' hm hb'
            cases hb
            have hoff : cs[off]? = some (.int .u8 (Int.ofNat m)) := by
              have := congrArg List.head? hd
              simpa [List.head?_drop] using this
            have hl : l = cs.drop (off + 1) := by
              have := congrArg List.tail hd
              simpa [List.tail_drop] using this.symm
            obtain ⟨u, h1, h2⟩ := load1_rel (P := P) (off := off) hh hi (show load1 H b off = some (.int .u8 (Int.ofNat m)) by simp [load1, hg, nth_eq, hoff])
            cases h2
            have ih := loadBytes_rel hh hi hg n (off + 1) r' bs' (acc.push (UInt8.ofNat m)) (by rw [dropN_eq, ← hl]; exact ht) hb'
            have e : (⟨i.blk, i.base + off, none⟩ : Addr).add 1 = ⟨i.blk, i.base + (off + 1), none⟩ := by simp [Addr.add, Nat.add_assoc]
            simp only [loadBytes, Sem.run_bind, h1, Result.andThen_ok, e]
            refine Eq.trans ?_ (ih.trans ?_)
            · rfl
            · congr 1
              simp [ByteArray.ext_iff, ByteArray.push]
          · cases hb
        · cases hb

theorem m_ustr {α : Type} (p : Option Addr) (l : Value) (f : Option Addr → Value → α) (g : Array Value → α) : Builtin.unsafeString_.match_3 (fun _ => α) #[.pointer p, l] f g = f p l := rfl
theorem run_unsafeString (argTypes : Array TypeId) (ty pT : TypeId) (h0 : argTypes[0]? = some pT) (k : IntKind) (m : Nat) (a : Addr) (u : TypeId) (hu : P.underlying pT = some (.pointer u)) (hm0 : m ≠ 0) (hm : m ≤ 281474976710656)
    {s : ByteArray} (hv : (variablesAt a u m).run P w = .ok true w) (hl : (loadBytes a .empty m).run P w = .ok s w) :
    (Builtin.unsafeString_ argTypes ty #[.pointer (some a), .int k (m : Int)]).run P w = .ok (.string s) (w.freeze a m) := by
  have hmax : ¬ ((9223372036854775807 : Int) < (m : Int)) := by omega
  have hmx : IntKind.i64.max = 9223372036854775807 := rfl
  have he : (elemOf pT).run P w = .ok u w := by simp [elemOf, run_und hu]
  have h0' : ¬ ((m : Int) < 0) := by omega
  delta Builtin.unsafeString_
  rw [m_ustr]
  simp [asInt, asIntOf, h0, hmx, hmax, hm0, he, hv, hl, h0']
theorem run_unsafeString0 (argTypes : Array TypeId) (ty pT : TypeId) (h0 : argTypes[0]? = some pT) (k : IntKind) (p : Option Addr) : (Builtin.unsafeString_ argTypes ty #[.pointer p, .int k 0]).run P w = .ok (.string .empty) w := by
  have hmx : IntKind.i64.max = 9223372036854775807 := rfl
  cases p with
  | none =>
    delta Builtin.unsafeString_
    rw [m_ustr]
    simp [asInt, asIntOf, h0, hmx]
  | some a =>
    delta Builtin.unsafeString_
    rw [m_ustr]
    simp [asInt, asIntOf, h0, hmx]

theorem depth_succ : P.depth = (2 * (P.types.size + Made.depth) + 1) + 1 := rfl
theorem liesAt_row {e u count off n : Nat} (h1 : P.underlyingId e = P.underlyingId u) (hs : P.cellsOf e = 1) (hb : off + n ≤ count) : liesAt P P.depth e count off u n = true := by
  have hl : sameLayout P P.depth e u = true := by rw [depth_succ]; simp [sameLayout, h1]
  have hr : rowAt P (sameLayout P P.depth · u) P.depth e count off n = true := by
    rw [depth_succ]
    unfold rowAt
    simp only [hs, Nat.div_one, Nat.mod_one]
    rw [depth_succ] at hl
    simp [hb, hl]
  have : ∀ d, rowAt P (sameLayout P P.depth · u) P.depth e count off n = true → liesAt P (d + 1) e count off u n = true := fun d h => by
    unfold liesAt; rw [h]; rfl
  conv => lhs; arg 2; rw [depth_succ]
  exact this _ hr

theorem unsafeString_ok (hh : HRel μ H w) {argTypes : Array TypeId} {ty pT : TypeId} (h0 : argTypes[0]? = some pT) {p n v : AV} {pv nv : Value} (hp : VRel μ p pv) (hn : VRel μ n nv) {H' : AHeap} (h : unsafeStrA P H pT p n = some (v, H')) :
    ValOK P μ H w (Builtin.unsafeString_ argTypes ty #[pv, nv]) v H' := by
  unfold unsafeStrA at h
  have asn : ∀ m, asN n = some m → ∃ k, nv = .int k (m : Int) := by
    intro m hm
    unfold asN at hm
    split at hm
    · cases hm; cases hn; exact ⟨_, rfl⟩
    · cases hm
  split at h
  · rename_i hz
    cases h; cases hp
    obtain ⟨k, rfl⟩ := asn 0 hz
    exact .same hh (v' := .string .empty) (run_unsafeString0 argTypes ty pT h0 k none) ⟨.empty, rfl, rfl⟩
  · rename_i b off m hm
    obtain ⟨k, rfl⟩ := asn m hm
    obtain ⟨i, hi, rfl⟩ := hp
    split at h
    · rename_i hz
      cases h; subst hz
      exact .same hh (v' := .string .empty) (run_unsafeString0 argTypes ty pT h0 k _) ⟨.empty, rfl, rfl⟩
    · rename_i hm0
      split at h
      · rename_i u cs el kk lo hi' hu hg
        split at h
        · rename_i hc
          simp only [Bool.and_eq_true, decide_eq_true_eq, Nat.ble_eq] at hc
          obtain ⟨⟨⟨c1, c2⟩, c3⟩, c4⟩ := hc
          split at h
          · rename_i r hr
            split at h
            · rename_i bs hb
              cases h
              obtain ⟨c, flo, fhi, e1, e2, e3, e4⟩ := hh.rel _ _ i hg hi
              have hlb := loadBytes_rel (P := P) hh hi hg m off r bs .empty hr hb
              have hlen : off + m ≤ cs.length := by
                rw [dropN_eq] at hr
                have := (takeN_eq m _ _ hr).1
                rw [List.length_drop] at this
                omega
              have hpos : 0 < m := Nat.pos_of_ne_zero hm0
              have hin : i.base + off + m ≤ c.size := by
                obtain ⟨x, hx⟩ : ∃ x, cs[off + m - 1]? = some x := ⟨_, List.getElem?_eq_getElem (by omega)⟩
                obtain ⟨uu, hu', _⟩ := e2 _ x hx
                rcases Nat.lt_or_ge (i.base + (off + m - 1)) c.size with h | h
                · omega
                · rw [Array.getElem?_eq_none h] at hu'; cases hu'
              have hce : P.cellsOf el = 1 := by
                unfold sizeT at c2
                unfold Program.cellsOf
                cases hi' : P.info? el with
                | none => rw [hi'] at c2; cases c2
                | some ii => rw [hi'] at c2; simpa using c2
              have hva : (variablesAt ⟨i.blk, i.base + off, none⟩ u m).run P w = .ok true w := by
                have hl := liesAt_row (P := P) (e := el) (u := u) (count := c.size / P.cellsOf el) (off := i.base + off) (n := m) c1 hce (by rw [hce]; simpa using hin)
                simp [variablesAt, World.shape?, e1, hl]
              have hrun := run_unsafeString (P := P) (w := w) argTypes ty pT h0 k m _ u hu hm0 c3 hva hlb
              have hfz : ∃ fr : Nat × Nat, w.freeze ⟨i.blk, i.base + off, none⟩ m = { w with heap := w.heap.modify i.blk fun
                  | .cells c elem (lo, hi) => .cells c elem (if lo == hi then (i.base + off, i.base + off + m) else (min lo (i.base + off), max hi (i.base + off + m)))
                  | o => o } ∧ (w.freeze ⟨i.blk, i.base + off, none⟩ m).heap[i.blk]? = some (.cells c el fr) := by
                have : w.freeze ⟨i.blk, i.base + off, none⟩ m = { w with heap := w.heap.modify i.blk fun
                  | .cells c elem (lo, hi) => .cells c elem (if lo == hi then (i.base + off, i.base + off + m) else (min lo (i.base + off), max hi (i.base + off + m)))
                  | o => o } := by simp [World.freeze, hm0]; rfl
                refine ⟨if flo == fhi then (i.base + off, i.base + off + m) else (min flo (i.base + off), max fhi (i.base + off + m)), this, ?_⟩
                rw [this]
                simp [Array.getElem?_modify, e1]
              obtain ⟨⟨f1, f2⟩, q1, q2⟩ := hfz
              have hro : (AObj.cells cs el kk lo hi').isRo = false := by cases kk <;> first | rfl | exact absurd rfl c4
              obtain ⟨r1, r2⟩ := hh.update (w' := w.freeze ⟨i.blk, i.base + off, none⟩ m) (o' := .cells cs el .fz lo hi') hg hro hi (by rw [q1]; simp) (fun r hr => by rw [q1]; simp [Array.getElem?_modify]; intro e; exact absurd e.symm hr) (by rw [q1]) (by rw [q1]) (by rw [q1])
                ⟨c, f1, f2, q2, e2, e3, trivial⟩ (hdr := by rw [q1]; exact Nat.le_refl _)
              exact ⟨μ, _, .string _, hrun, ⟨_, rfl, by simp⟩, r1, r2⟩
            · cases h
          · cases h
        · cases h
      · cases h
  · cases h

theorem sliceData_ok {argTypes : Array TypeId} {ty : TypeId} {x : AV} {xv : Value} (hx : VRel μ x xv) :
    (x = .nilS → (Builtin.unsafeSliceData_ argTypes ty #[xv]).run P w = .ok (.pointer none) w) ∧
    (∀ b off n c, x = .slice b off n (.exact c) → c ≠ 0 → ∃ u, (Builtin.unsafeSliceData_ argTypes ty #[xv]).run P w = .ok u w ∧ VRel μ (.ptr b off) u) ∧
    (∀ b off n e, x = .slice b off n (.opn e) → n ≠ 0 → ∃ u, (Builtin.unsafeSliceData_ argTypes ty #[xv]).run P w = .ok u w ∧ VRel μ (.ptr b off) u) := by
  have key : ∀ (a : Addr) (n c : Nat), c ≠ 0 → (Builtin.unsafeSliceData_ argTypes ty #[.slice (some a) n c]).run P w = .ok (.pointer (some a)) w := fun a n c hc => by
    obtain ⟨k, rfl⟩ : ∃ k, c = k + 1 := ⟨c - 1, by omega⟩
    rfl
  refine ⟨fun h => ?_, fun b off n c h hc => ?_, fun b off n e h hn => ?_⟩
  · subst h; cases hx; rfl
  · subst h; obtain ⟨i, hi, hc'⟩ := hx; cases hc'
    exact ⟨_, key _ n c hc, i, hi, rfl⟩
  · subst h; obtain ⟨i, hi, c, rfl, hle, _⟩ := hx
    exact ⟨_, key _ n c (by omega), i, hi, rfl⟩

-- calls

theorem ofValue_fn {fv : Value} {first caps : List AV} {g : Nat} {args : List AV} {vs : List Value} (hf : VRel μ (.fn g first caps) fv) (ha : VRels μ args vs) :
    ∃ fs cs : List Value, (do let d ← Deferred.ofValue fv ⟨vs⟩; invoke d.target d.args : Sem Next).run P w = (callFunc g ⟨fs ++ vs ++ cs⟩).run P w ∧ VRels μ (first ++ args ++ caps) (fs ++ vs ++ cs) ∧
      (Deferred.ofValue fv ⟨vs⟩).run P w = .ok { target := .fn (.func g) ⟨cs⟩, args := ⟨fs ++ vs⟩ } w := by
  obtain ⟨fs, cs, rfl, h1, h2⟩ := hf
  refine ⟨fs, cs, ?_, (h1.append ha).append h2, ?_⟩
  · simp [Deferred.ofValue, invoke]
  · simp [Deferred.ofValue]
theorem ofValue_yld {l : Nat} {fv : Value} {vs : List Value} (hf : VRel μ (.yld l) fv) :
    ∃ i, μ l = some i ∧ (do let d ← Deferred.ofValue fv ⟨vs⟩; invoke d.target d.args : Sem Next).run P w = (Instr.yield i.blk ⟨vs⟩).run P w := by
  obtain ⟨i, hi, rfl⟩ := hf
  exact ⟨i, hi, by simp [Deferred.ofValue, invoke]⟩
theorem method_ok {t : TypeId} {name : String} {f : Nat} (h : methodA P t name = some f) (v : Value) (n : Nat) : (method (n + 1) t v name).run P w = .ok (f, v) w := by
  unfold methodA at h
  split at h
  · rename_i i hi
    split at h
    · rename_i m hm
      have hf : ∀ q, m.path.isEmpty = q → m.path.isEmpty = q := fun _ h => h
      split at h
      all_goals first
        | (cases h; done)
        | (rename_i hp hfn hu
           cases h
           have hpe : m.path.toList = [] := by simpa using hp
           simp [method, run_typeInfo hi, hm, hpe, follow, hfn, receiverAt, run_und hu, Place.get]
           done)
    · cases h
  · cases h
end
end AEv

/-
  THE ABSTRACT EVALUATOR: one operation, whatever it is.
-/
namespace AEv
open Go

def OpOK (P : Program) (μ : Mu) (H : AHeap) (w : World) (s : Sem Next) : OpRes → Prop
  | .val v H' => ∃ μ' w' u, (s.run P w = .ok (.value u) w' ∨ (u = undef ∧ s.run P w = .ok .skip w')) ∧ VRel μ' v u ∧ HRel μ' H' w' ∧ Adv μ H w μ' H' w'
  | .pan v H' => H' = H ∧ ∃ u, s.run P w = .halt (.panic u) w ∧ VRel μ v u
  | .call f args H' => H' = H ∧ ∃ vs : List Value, s.run P w = (callFunc f ⟨vs⟩).run P w ∧ VRels μ args vs
  | .yld l args H' => H' = H ∧ ∃ i, ∃ vs : List Value, μ l = some i ∧ s.run P w = (Instr.yield i.blk ⟨vs⟩).run P w ∧ VRels μ args vs
  | .dfr d => ∃ dd, s.run P w = .ok (.defer dd) w ∧ DRel μ d dd
  | .rcv => s.run P w = .ok .recover w
  | .fail _ => True

section
variable {P : Program} {μ : Mu} {H : AHeap} {w : World}

theorem OpOK.of_val {s : Sem Value} {v : AV} {H' : AHeap} (h : ValOK P μ H w s v H') : OpOK P μ H w (do pure (.value (← s))) (.val v H') := by
  obtain ⟨μ', w', u, h1, h2, h3, h4⟩ := h
  exact ⟨μ', w', u, .inl (by simp [h1]), h2, h3, h4⟩
theorem OpOK.of_same (hh : HRel μ H w) {s : Sem Value} {v : AV} (h : ∃ u, s.run P w = .ok u w ∧ VRel μ v u) : OpOK P μ H w (do pure (.value (← s))) (.val v H) := by
  obtain ⟨u, h1, h2⟩ := h
  exact ⟨μ, w, u, .inl (by simp [h1]), h2, hh, Adv.refl _ _ _⟩
theorem OpOK.of_value (hh : HRel μ H w) {u : Value} {v : AV} (h : VRel μ v u) {s : Sem Next} (hs : s.run P w = .ok (.value u) w) : OpOK P μ H w s (.val v H) :=
  ⟨μ, w, u, .inl hs, h, hh, Adv.refl _ _ _⟩
theorem OpOK.of_unit {s : Sem Unit} {H' : AHeap} (h : ∃ w', s.run P w = .ok () w' ∧ HRel μ H' w' ∧ Adv μ H w μ H' w') : OpOK P μ H w (do s; pure .skip) (.val (.tup []) H') := by
  obtain ⟨w', h1, h3, h4⟩ := h
  exact ⟨μ, w', undef, .inr ⟨rfl, by simp [h1]⟩, ⟨[], rfl, rfl⟩, h3, h4⟩
theorem of_ofVal (hh : HRel μ H w) {s : Sem Value} {o : Option AV} {why : String} (h : ∀ v, o = some v → ∃ u, s.run P w = .ok u w ∧ VRel μ v u) : OpOK P μ H w (do pure (.value (← s))) (ofVal H why o) := by
  cases o with
  | none => trivial
  | some v => exact .of_same hh (h v rfl)
theorem of_ofValV {s : Sem Value} {o : Option AV} {why : String} (h : ∀ v, o = some v → ValOK P μ H w s v H) : OpOK P μ H w (do pure (.value (← s))) (ofVal H why o) := by
  cases o with
  | none => trivial
  | some v => exact .of_val (h v rfl)
theorem of_ofValH {s : Sem Value} {o : Option (AV × AHeap)} {why : String} (h : ∀ v H', o = some (v, H') → ValOK P μ H w s v H') : OpOK P μ H w (do pure (.value (← s))) (ofValH why o) := by
  cases o with
  | none => trivial
  | some p => exact .of_val (h p.1 p.2 rfl)
theorem of_ofH {s : Sem Unit} {o : Option AHeap} {why : String} (h : ∀ H', o = some H' → ∃ w', s.run P w = .ok () w' ∧ HRel μ H' w' ∧ Adv μ H w μ H' w') : OpOK P μ H w (do s; pure .skip) (ofH why o) := by
  cases o with
  | none => trivial
  | some H' => exact .of_unit (h H' rfl)

theorem asN_int {a : AV} {n : Nat} {v : Value} (h : asN a = some n) (hv : VRel μ a v) : ∃ k, v = .int k (n : Int) := by
  unfold asN at h
  split at h
  · cases h; cases hv; exact ⟨_, rfl⟩
  · cases h

theorem callVal_ok (hh : HRel μ H w) {f : AV} {fv : Value} {args : List AV} {vs : List Value} (hf : VRel μ f fv) (ha : VRels μ args vs) :
    OpOK P μ H w (do let d ← Deferred.ofValue fv ⟨vs⟩; invoke d.target d.args) (callVal f args H) := by
  unfold callVal
  split
  · obtain ⟨fs, cs, h1, h2, _⟩ := ofValue_fn (P := P) (w := w) hf ha
    exact ⟨rfl, _, h1, h2⟩
  · obtain ⟨i, h1, h2⟩ := ofValue_yld (P := P) (w := w) (vs := vs) hf
    exact ⟨rfl, i, vs, h1, h2, ha⟩
  · trivial

theorem builtin_ok (hh : HRel μ H w) {b : Builtin} {ats : Array TypeId} {ty : TypeId} {consts : Array Bool} {vs : List AV} {us : List Value} (hv : VRels μ vs us) :
    OpOK P μ H w (builtin b ats ty consts ⟨us⟩) (evBuiltin P b ats vs H) := by
  unfold evBuiltin
  split
  · rfl
  · cases vs with
    | nil => trivial
    | cons x l =>
      obtain ⟨xv, lv, rfl, h1, h2⟩ := hv
      refine of_ofVal hh fun v h => ?_
      obtain ⟨u, q1, q2⟩ := fold_rel (P := P) (w := w) minA Builtin.min2 (fun _ _ _ _ _ h hx hy => min2_rel h hx hy) l x xv lv v h1 h2 h
      exact ⟨u, by simpa [Builtin.min_] using q1, q2⟩
  · cases vs with
    | nil => trivial
    | cons x l =>
      obtain ⟨xv, lv, rfl, h1, h2⟩ := hv
      refine of_ofVal hh fun v h => ?_
      obtain ⟨u, q1, q2⟩ := fold_rel (P := P) (w := w) maxA Builtin.max2 (fun _ _ _ _ _ h hx hy => max2_rel h hx hy) l x xv lv v h1 h2 h
      exact ⟨u, by simpa [Builtin.max_] using q1, q2⟩
  · split
    · rename_i t x h0
      obtain ⟨xv, lv, rfl, h1, h2⟩ := hv
      cases h2
      split
      · exact of_ofValV fun v h => len_ok hh h0 h1 h
      · exact of_ofValV fun v h => cap_ok hh h0 h1 h
      · exact of_ofValH fun v H' h => clear_ok hh h0 h1 h
      · obtain ⟨s1, s2, s3⟩ := sliceData_ok (P := P) (w := w) (argTypes := ats) (ty := ty) h1
        split
        · exact .of_same hh ⟨_, s1 rfl, rfl⟩
        · split
          · trivial
          · rename_i hc; exact .of_same hh (s2 _ _ _ _ rfl hc)
        · split
          · trivial
          · rename_i hc; exact .of_same hh (s3 _ _ _ _ rfl hc)
        · trivial
      · trivial
    · rename_i t x y h0
      obtain ⟨xv, lv, rfl, h1, yv, lv', rfl, h2, h3⟩ := hv
      cases h3
      split
      · exact of_ofValH fun v H' h => append_ok hh h0 h1 h2 h
      · exact of_ofValH fun v H' h => copy_ok hh h0 h1 h2 h
      · exact of_ofValH fun v H' h => delete_ok hh h0 h1 h2 h
      · exact of_ofValH fun v H' h => unsafeString_ok hh h0 h1 h2 h
      · trivial
    · trivial

theorem convert_ok (hh : HRel μ H w) {src dst : TypeId} {x : AV} {xv : Value} (hx : VRel μ x xv) :
    OpOK P μ H w (do pure (.value (← convert src dst xv))) (evConvert P src dst x H) := by
  unfold evConvert
  split
  · rename_i k0 k k1 n hs hd
    cases hx
    exact .of_same hh ⟨.int k (k.wrap n), by simp [convert, run_und hs, run_und hd, Conv.intToInt], rfl⟩
  · rename_i k0 k1 n hs hd
    cases hx
    exact .of_same hh ⟨.string (Utf8.encode n), by simp [convert, run_und hs, run_und hd, Conv.intToString], _, rfl, rfl⟩
  · rename_i s hs hd
    obtain ⟨t, rfl, rfl⟩ := hx
    exact .of_same hh ⟨.string t, by simp [convert, run_und hs, run_und hd], _, rfl, rfl⟩
  · rename_i e s hs hd
    obtain ⟨t, rfl, rfl⟩ := hx
    split
    · rename_i he
      refine .of_val ?_
      have hst := stringToBytes_ok (P := P) hh (e := e) (bs := t)
      obtain ⟨μ', w', u, h1, h2, h3, h4⟩ := hst
      exact ⟨μ', w', u, by simp [convert, run_und hs, run_und hd, run_und he, h1], h2, h3, h4⟩
    · trivial
  · rename_i e hs hd
    have key : P.underlying e = some (.int .u8) → ∀ a n c, (convert src dst (.slice a n c)).run P w = (Conv.bytesToString (.slice a n c)).run P w := by
      intro he a n c
      simp [convert, run_und hs, run_und hd, run_und he]
    split
    · rename_i he
      cases hx
      refine .of_same hh ⟨.string .empty, ?_, .empty, rfl, rfl⟩
      rw [key he]; rfl
    · rename_i b off n he
      split
      · rename_i hn
        subst hn
        obtain ⟨i, _, _, a, c, rfl⟩ := hx
        refine .of_same hh ⟨.string .empty, ?_, .empty, rfl, rfl⟩
        rw [key he]; rfl
      · trivial
    · rename_i b off n c hnd he
      split
      · rename_i cs hl
        split
        · rename_i bs hb
          obtain ⟨μ', w', u, h1, h2, h3, h4⟩ := bytesToString_ok (P := P) hh (by intro e; subst e; exact hnd rfl) hx hl hb
          refine .of_val ⟨μ', w', u, ?_, h2, h3, h4⟩
          have hsl : ∃ a m k, xv = .slice a m k := by
            obtain ⟨i, _, hc⟩ := hx
            cases c with
            | exact c => cases hc; exact ⟨_, _, _, rfl⟩
            | opn esz => obtain ⟨c, rfl, _⟩ := hc; exact ⟨_, _, _, rfl⟩
            | dead => obtain ⟨_, a, c, rfl⟩ := hc; exact ⟨_, _, _, rfl⟩
          obtain ⟨a, m, k, rfl⟩ := hsl
          rw [key he]; exact h1
        · trivial
      · trivial
    · trivial
  · rename_i u b off hs hd
    split
    · rename_i cs el k lo hi n hg hz
      split
      · rename_i hlt
        exact .of_same hh ⟨xv, toUnsafe_ok hh hs hd hz hg (by simpa using hlt) hx, hx⟩
      · trivial
    · trivial
  · rename_i u b off hs hd
    split
    · rename_i cs el lo hi n hg hz
      split
      · rename_i hc
        exact .of_same hh ⟨xv, fromUnsafe_ok hh hs hd hz hg hc hx, hx⟩
      · trivial
    · trivial
  · trivial
end
end AEv

/-
  THE ABSTRACT EVALUATOR: one operation, joined.
-/
namespace AEv
open Go

section
variable {P : Program} {μ : Mu} {H : AHeap} {w : World}

theorem pick_ok (hh : HRel μ H w) {c a b : Operand} {g : Operand → AV} {ρ : Operand → Value} (hg : ∀ x, VRel μ (g x) (ρ x)) {bb : Bool} (hc : g c = .bool bb) :
    OpOK P μ H w (do pure (.value (if ← asBool (ρ c) then ρ a else ρ b))) (.val (if bb then g a else g b) H) := by
  have h1 := hg c
  rw [hc] at h1
  refine .of_value hh (u := if bb then ρ a else ρ b) ?_ ?_
  · cases bb
    · exact hg b
    · exact hg a
  · have : ρ c = .bool bb := h1
    simp [this, asBool]

theorem args_rel {g : Operand → AV} {ρ : Operand → Value} (hg : ∀ x, VRel μ (g x) (ρ x)) (args : Array Operand) : VRels μ (args.toList.map g) (args.map ρ).toList := by
  rw [Array.toList_map]; exact VRels.map g ρ hg _

theorem nilCheck_ok (hh : HRel μ H w) {g : Operand → AV} {ρ : Operand → Value} (hg : ∀ x, VRel μ (g x) (ρ x)) (o : Oper) (x : Operand) (ho : o.op = .nilCheck x) : OpOK P μ H w (execOp ρ o) (match g x with
    | .ptr b o => .val (.ptr b o) H
    | .slice b o n c => .val (.slice b o n c) H
    | .fn f a b => .val (.fn f a b) H
    | .iface t v => .val (.iface t v) H
    | _ => .fail "nilCheck") := by
  have h1 := hg x
  have e : ∀ (v : AV), g x = v → ((∃ b o, v = .ptr b o) ∨ (∃ b o n c, v = .slice b o n c) ∨ (∃ f a b, v = .fn f a b) ∨ ∃ t y, v = .iface t y) → OpOK P μ H w (execOp ρ o) (.val v H) := by
    intro v hv hs
    have h2 := h1
    rw [hv] at h2
    exact .of_value hh h2 (nilCheck_val h2 hs o x ρ rfl ho)
  split
  · rename_i b o hx; exact e _ hx (.inl ⟨_, _, rfl⟩)
  · rename_i b o n c hx; exact e _ hx (.inr (.inl ⟨_, _, _, _, rfl⟩))
  · rename_i f a b hx; exact e _ hx (.inr (.inr (.inl ⟨_, _, _, rfl⟩)))
  · rename_i t v hx; exact e _ hx (.inr (.inr (.inr ⟨_, _, rfl⟩)))
  · trivial
theorem call_ok (hh : HRel μ H w) {g : Operand → AV} {ρ : Operand → Value} (hg : ∀ x, VRel μ (g x) (ρ x)) (c : Call) (type : TypeId) : OpOK P μ H w (do let d ← resolve ρ c type; invoke d.target d.args) (match c.callee with
    | .value f => callVal (g f) (c.args.toList.map g) H
    | .invoke r name => match g r with
      | .iface t v => match methodA P t name with
        | some f => .call f (v :: c.args.toList.map g) H
        | none => .fail ("invoke " ++ name)
      | _ => .fail ("invoke " ++ name)
    | .builtin b => evBuiltin P b c.argTypes (c.args.toList.map g) H) := by
  have ha := args_rel (μ := μ) hg c.args
  cases hc : c.callee with
  | value f =>
    simp only [resolve, hc]
    exact callVal_ok hh (hg f) ha
  | invoke r name =>
    simp only []
    split
    · rename_i t v hr
      split
      · rename_i f hm
        have h1 := hg r
        rw [hr] at h1
        obtain ⟨y, hy, hv⟩ := h1
        refine ⟨rfl, y :: (c.args.map ρ).toList, ?_, ⟨_, _, rfl, hv, ha⟩⟩
        have hmp : 0 < Made.depth := by decide
        obtain ⟨n, hn⟩ : ∃ n, P.types.size + Made.depth = n + 1 := ⟨P.types.size + Made.depth - 1, by omega⟩
        have hmd := method_ok (P := P) (w := w) hm y n
        have h0 : (#[ρ r] ++ c.args.map ρ)[0]? = some (ρ r) := by rw [Array.getElem?_append_left (by simp)]; rfl
        have h2 : (#[ρ r] ++ c.args.map ρ).extract 1 (#[ρ r] ++ c.args.map ρ).size = c.args.map ρ := by
          apply Array.ext'
          simp only [Array.toList_extract, Array.toList_append, Array.toList_map, List.cons_append, List.nil_append, List.extract_eq_take_drop]
          rw [List.take_of_length_le]
          · rfl
          · simp
        have h3 : (#[y] ++ c.args.map ρ : Array Value) = ⟨y :: (c.args.map ρ).toList⟩ := by apply Array.ext'; simp
        rw [hy] at h0 h2
        simp only [resolve, hc, Sem.run_bind, Sem.run_pure, Result.andThen_ok, invoke, hy, h0, h2, callMethod, run_program, hn, hmd, h3]
      · trivial
    · trivial
  | builtin b =>
    have hb := builtin_ok (P := P) (b := b) (ats := c.argTypes) (ty := type) (consts := c.args.map fun | .const _ => true | _ => false) hh ha
    have he : (do let d ← resolve ρ c type; invoke d.target d.args : Sem Next) = builtin b c.argTypes type (c.args.map fun | .const _ => true | _ => false) (c.args.map ρ) := by
      simp only [resolve, hc]; rfl
    rw [he]; exact hb

set_option maxHeartbeats 4000000 in
theorem evOp_ok (hh : HRel μ H w) (o : Oper) {g : Operand → AV} {ρ : Operand → Value} (hg : ∀ x, VRel μ (g x) (ρ x)) : OpOK P μ H w (execOp ρ o) (evOp P o g H) := by
  obtain ⟨dst, op, type, pos, after, guard⟩ := o
  cases op <;> simp only [evOp, execOp]
  case move x => exact .of_value hh (hg x) rfl
  case assign x => exact .of_value hh (hg x) rfl
  case pick c a b =>
    split
    · rename_i hc; exact pick_ok hh hg hc
    · rename_i hc; exact pick_ok hh hg hc
    · trivial
  case alloc e =>
    split
    · rename_i z hz
      split
      · rename_i b h' hr; exact .of_val (alloc_ok hh hz hr)
      · trivial
    · trivial
  case box e x =>
    split
    · rename_i b h' hr; exact .of_val (box_ok hh (hg x) hr)
    · trivial
  case build t parts =>
    split
    · rename_i z hz
      split
      · rename_i fs hu
        split
        · rename_i cs hall hf; exact .of_val (build_struct_ok hh g ρ hg hz hu hall parts hf)
        · trivial
      · rename_i n e hu
        split
        · rename_i sz hs
          split
          · rename_i cs hf; exact .of_val (build_array_ok hh g ρ hg hz hu hs parts hf)
          · trivial
        · trivial
      · trivial
    · trivial
  case buildSlice t len parts =>
    split
    · rename_i e hu
      split
      · rename_i sz z hs hz
        split
        · rename_i cs hc hf
          rw [Bool.and_eq_true, Nat.ble_eq, Nat.beq_eq] at hc
          split
          · rename_i b h' hr; exact .of_val (buildSlice_ok hh g ρ hg hu hs hz hc.1 hc.2 parts hf hr)
          · trivial
        · trivial
      · trivial
    · trivial
  case insert t m k v => exact of_ofH fun H' h => mapUpd_ok hh (hg m) (hg k) (hg v) h
  case load t a =>
    split
    · rename_i b off ha
      have h1 := hg a
      rw [ha] at h1
      obtain ⟨l1, l2⟩ := load_ok (P := P) hh (t := t) h1
      split
      · rename_i n hag hn
        split
        · rename_i cs hl; exact .of_val (l1 n cs hag hn hl)
        · trivial
      · rename_i hag
        exact of_ofValV fun v h => l2 v hag h
      · trivial
    · trivial
  case store t a v =>
    split
    · rename_i b off ha
      have h1 := hg a
      rw [ha] at h1
      split
      · trivial
      · rename_i n hn hnb
        split
        · rename_i hl
          exact of_ofH fun H' h => store_ok hh h1 (hg v) hnb hn (by simpa using hl) h
        · trivial
      · trivial
    · trivial
  case ready => trivial
  case waits => trivial
  case nilCheck x => exact nilCheck_ok hh hg ⟨dst, .nilCheck x, type, pos, after, guard⟩ x rfl
  case binOp op t x y yt => exact of_ofVal hh fun v h => binA_ok hh (yt := yt) (hg x) (hg y) h
  case unOp op t x =>
    have h1 := hg x
    split
    · rename_i b hx; rw [hx] at h1; exact .of_same hh (unOp_not h1)
    · rename_i k n hx; rw [hx] at h1; exact .of_same hh (unOp_neg h1)
    · rename_i k n hx; rw [hx] at h1; exact of_ofVal hh fun v h => unOp_xor h1 h
    · trivial
  case convert src dst' x => exact convert_ok hh (hg x)
  case sliceToArrayPointer => trivial
  case makeInterface t x =>
    split
    · trivial
    · rename_i d hni hu
      refine .of_same hh ⟨.iface t (ρ x), makeInterface_ok hu (fun m e => hni m (e ▸ rfl)) (hg x), _, rfl, hg x⟩
    · trivial
  case makeFunc fn first caps =>
    split
    · rename_i f
      exact .of_same hh ⟨.func (.func f) (first.map ρ) (caps.map ρ), rfl, _, _, rfl, args_rel hg first, args_rel hg caps⟩
    · trivial
  case makeMap t r =>
    cases r with
    | none => exact .of_val (makeMap_ok hh)
    | some x =>
      simp only []
      split
      · rename_i kt et k n hu hx
        have h1 := hg x
        rw [hx] at h1
        have h2 : ρ x = .int k n := h1
        rw [Option.map_some, h2]
        exact .of_val (makeMap_ok' hh hu)
      · trivial
  case makeChan => trivial
  case makeSlice t l c =>
    split
    · rename_i e l' c' hu hl hc
      obtain ⟨kl, el⟩ := asN_int hl (hg l)
      obtain ⟨kc, ec⟩ := asN_int hc (hg c)
      split
      · rename_i i z hi hz
        split
        · rename_i hcond
          rw [Bool.and_eq_true, Bool.and_eq_true, Nat.ble_eq, Nat.beq_eq, decide_eq_true_eq] at hcond
          split
          · rename_i b h' hr
            rw [el, ec]
            exact .of_val (makeSlice_ok hh hu hi hz hcond.1.1 hcond.1.2 hcond.2 hr)
          · trivial
        · trivial
      · trivial
    · trivial
  case slice t x lo hi mx =>
    exact of_ofValV fun v h => slice_ok hh (hg x) (OptRel.map g ρ hg lo) (OptRel.map g ρ hg hi) (OptRel.map g ρ hg mx) h
  case fieldAddr s x f =>
    split
    · rename_i fs b off hu hx
      have h1 := hg x
      rw [hx] at h1
      split
      · rename_i fd hf
        split
        · trivial
        · rename_i n hn0 hn
          exact .of_val (fieldAddr_ok hh hu hf hn (fun e => hn0 e) h1)
        · trivial
      · trivial
    · trivial
  case field t x f =>
    split
    · rename_i fs cs hu hx
      have h1 := hg x
      rw [hx] at h1
      split
      · rename_i fd hf
        exact of_ofValV fun v h => field_ok hh hu hf h1 h
      · trivial
    · trivial
  case indexAddr t x i =>
    split
    · rename_i n e b off k hu hx hi
      have h1 := hg x
      rw [hx] at h1
      obtain ⟨kk, ei⟩ := asN_int hi (hg i)
      split
      · rename_i sz hs
        split
        · rename_i hk; rw [ei]; exact .of_val (indexAddr_array_ok hh hu hs h1 hk)
        · trivial
      · trivial
    · rename_i e b off n c k hu hx hi
      have h1 := hg x
      rw [hx] at h1
      obtain ⟨kk, ei⟩ := asN_int hi (hg i)
      split
      · rename_i sz hs
        split
        · rename_i hk; rw [ei]; exact .of_val (indexAddr_slice_ok hh hu hs h1 hk)
        · trivial
      · trivial
    · trivial
  case index t x i =>
    split
    · rename_i n e cs k hu hx hi
      have h1 := hg x
      rw [hx] at h1
      obtain ⟨kk, ei⟩ := asN_int hi (hg i)
      split
      · rename_i sz hs
        split
        · rename_i hk; rw [ei]; exact of_ofValV fun v h => index_array_ok hh hu hs h1 hk h
        · trivial
      · trivial
    · rename_i s k hu hx hi
      have h1 := hg x
      rw [hx] at h1
      obtain ⟨kk, ei⟩ := asN_int hi (hg i)
      split
      · rename_i c hc; rw [ei]; exact .of_val (index_str_ok hh hu h1 hc)
      · trivial
    · trivial
  case lookup t x i ok => exact of_ofValV fun v h => lookup_ok hh (hg x) (hg i) h
  case mapUpdate t m k v => exact of_ofH fun H' h => mapUpd_ok hh (hg m) (hg k) (hg v) h
  case mapEntry t m k => exact of_ofValH fun v H' h => mapEnt_ok hh (hg m) (hg k) h
  case entryStore t m s v => exact of_ofH fun H' h => entStore_ok hh (hg m) (hg s) (hg v) h
  case range t x =>
    split
    · rename_i s hu hx
      have h1 := hg x
      rw [hx] at h1
      exact .of_val (range_str_ok hh hu h1)
    · rename_i kt et hu hx
      have h1 := hg x
      rw [hx] at h1
      exact .of_val (range_nil_ok hh hu h1)
    · rename_i kt et m hu hx
      have h1 := hg x
      rw [hx] at h1
      split
      · rename_i es c hgm
        obtain ⟨i, hi, hv⟩ := h1
        obtain ⟨ents, e1, e2⟩ := hh.rel _ _ i hgm hi
        obtain ⟨r1, r2⟩ := hh.alloc (.mapIter (some m) c [] c) (.mapIter (some i.blk) c #[] c) 0 ⟨rfl, i, hh.le_upd _ _ _ hi, World.heap_alloc_new _ _⟩
        refine .of_val ⟨_, _, .pointer (some ⟨w.heap.size, 0, none⟩), ?_, ⟨_, upd_same _ _ _, rfl⟩, r1, r2⟩
        have hgo : (getObj i.blk).run P w = .ok (.map ⟨ents⟩ c) w := by simp [getObj, Sem.run, e1]
        rw [hv]
        simp only [Instr.range, Sem.run_bind, run_und hu, Result.andThen_ok, hgo, Sem.run_pure, run_newObj]
        rfl
      · trivial
    · trivial
  case next it isStr => exact of_ofValH fun v H' h => next_str_ok hh (hg it) h
  case entry it => exact of_ofValV fun v h => entry_ok hh (hg it) h
  case typeAssert x xT as ok =>
    have h1 := hg x
    split
    · trivial
    · rename_i d hni hu hx
      obtain ⟨t1, _, _⟩ := typeAssert_ok (P := P) (w := w) (xT := xT) (ok := ok) hu (fun m e => hni m (e ▸ rfl)) h1
      split
      · rename_i hok
        split
        · rename_i z hz; exact .of_same hh (t1 z hx hok hz)
        · trivial
      · trivial
    · rename_i d t v hni hu hx
      obtain ⟨_, t2, t3⟩ := typeAssert_ok (P := P) (w := w) (xT := xT) (ok := ok) hu (fun m e => hni m (e ▸ rfl)) h1
      split
      · rename_i he; subst he; exact .of_same hh (t2 v hx)
      · rename_i hne
        split
        · rename_i hok
          split
          · rename_i z hz; exact .of_same hh (t3 t v z hx hne hok hz)
          · trivial
        · trivial
    · trivial
  case extract t i =>
    have h1 := hg t
    split
    · rename_i vs hx
      rw [hx] at h1
      exact of_ofVal hh fun v h => extract_ok h1 h
    · trivial
  case call c => exact call_ok hh hg c type
  case go => trivial
  case defer c =>
    split
    · rename_i f hf
      split
      · rename_i k first caps hx
        have h1 := hg f
        rw [hx] at h1
        obtain ⟨fs, cs, _, h3, h4⟩ := ofValue_fn (P := P) (w := w) h1 (args_rel hg c.args)
        refine ⟨_, ?_, .call k _ cs _ h3⟩
        simp only [resolve, hf, Sem.run_bind]
        have h4' : (Deferred.ofValue (ρ f) (c.args.map ρ)).run P w = .ok { target := .fn (.func k) ⟨cs⟩, args := ⟨fs ++ (c.args.map ρ).toList⟩ } w := h4
        rw [h4']; rfl
      · trivial
    · trivial
  case panic x =>
    have h1 := hg x
    split
    · rename_i t v hx
      rw [hx] at h1
      obtain ⟨y, hy, hv⟩ := h1
      refine ⟨rfl, .iface t y, ?_, ⟨y, rfl, hv⟩⟩
      rw [hy]; rfl
    · trivial
  all_goals trivial
end
end AEv

/-
  THE ABSTRACT EVALUATOR: a new block by itself; one operation in its frame.
-/
namespace AEv
open Go

section
variable {P : Program} {μ : Mu} {w : World}

/-- A row of cells, laid, and nothing else. -/
def RawRow (P : Program) (μ : Mu) (w : World) (s : Sem Value) (e : TypeId) (cs : List AV) (val : Addr → Value) : Prop :=
  ∃ us : List Value, VRels μ cs us ∧ s.run P w = .ok (val ⟨w.heap.size, 0, none⟩) (w.alloc (.cells ⟨us⟩ e))

theorem run_newRow (el : TypeId) (us : List Value) : (_root_.Go.newRow el ⟨us⟩).run P w = .ok ⟨w.heap.size, 0, none⟩ (w.alloc (.cells ⟨us⟩ el)) := by simp [_root_.Go.newRow]
theorem alloc_raw {e : TypeId} {z : AV} (hz : zeroT P e = some z) : RawRow P μ w (Instr.alloc e true (.tuple #[])) e z.cells (fun a => .pointer (some a)) := by
  obtain ⟨v, hv, rfl, hb⟩ := run_zero (w := w) hz
  refine ⟨v.cells.toList, (absV_rel μ v).cells hb, ?_⟩
  simp [Instr.alloc, hv, newVar, _root_.Go.newRow]
theorem box_raw {e : TypeId} {x : AV} {v : Value} (hv : VRel μ x v) (hb : x ≠ .bad) : RawRow P μ w (Instr.box e v) e x.cells (fun a => .pointer (some a)) := by
  refine ⟨v.cells.toList, hv.cells hb, ?_⟩
  simp [Instr.box, newVar, _root_.Go.newRow]
theorem buildSlice_raw (g : Operand → AV) (ρ : Operand → Value) (hg : ∀ x, VRel μ (g x) (ρ x)) {t e : TypeId} {len sz : Nat} {z : AV} (hu : P.underlying t = some (.slice e)) (hs : sizeT P e = some sz)
    (hz : zeroT P e = some z) (hle : len * sz ≤ 16777216) (hzl : z.cells.length = sz) (parts : Array (Nat × Operand)) {cs : List AV}
    (hf : fillA (fun i => some (i * sz, sz)) (if len * sz = 0 then [] else repeatL len z.cells) (parts.toList.map fun p => (p.1, g p.2)) = some cs) :
    RawRow P μ w (Instr.buildSlice t len (parts.map fun (i, x) => (i, ρ x))) e cs (fun a => .slice (some a) len len) := by
  obtain ⟨v, hv, rfl, hb⟩ := run_zero (w := w) hz
  have hc := (absV_rel μ v).cells hb
  have h24 : ¬ (len * sz > 2 ^ 24) := by omega
  have key : ∀ zero : Array Value, VRels μ (if len * sz = 0 then [] else repeatL len (absV v).cells) ((Array.range (len * sz)).map (fun i => zero[i % zero.size]!)).toList →
      (∀ r : Result Value, r = (match Instr.fill (fun i => some (i * sz, sz)) ((Array.range (len * sz)).map (fun i => zero[i % zero.size]!)) (parts.toList.map fun p => (p.1, ρ p.2)) with
        | some cells => do pure (.slice (some (← _root_.Go.newRow e cells)) len len)
        | none => stuck "buildSlice: a part of the wrong size" : Sem Value).run P w → (Instr.buildSlice t len (parts.map fun (i, x) => (i, ρ x))).run P w = r) →
      RawRow P μ w (Instr.buildSlice t len (parts.map fun (i, x) => (i, ρ x))) e cs (fun a => .slice (some a) len len) := by
    intro zero hz2 hrun
    obtain ⟨c', h1, h2⟩ := fill_rel _ g ρ hg parts.toList _ cs _ hz2 hf
    refine ⟨c', h2, hrun _ ?_⟩
    rw [h1]
    simp [run_newRow]
  by_cases h0 : len * sz = 0
  · refine key #[] (by rw [if_pos h0, h0]; simp [VRels]) fun r hr => ?_
    rw [hr]
    simp only [Instr.buildSlice, Sem.run_bind, run_und hu, Result.andThen_ok, run_sizeOf hs, if_neg h24, if_pos h0, Sem.run_pure, Array.toList_map]
    generalize Instr.fill _ _ _ = F
    cases F <;> rfl
  · refine key v.cells (by rw [if_neg h0]; exact zrow_rel hc hzl len) fun r hr => ?_
    rw [hr]
    simp only [Instr.buildSlice, Sem.run_bind, run_und hu, Result.andThen_ok, run_sizeOf hs, if_neg h24, if_neg h0, Sem.run_pure, Array.toList_map, hv]
    generalize Instr.fill _ _ _ = F
    cases F <;> rfl
theorem makeSlice_raw {t e : TypeId} {l c : Nat} {i : TypeInfo} {z : AV} {kl kc : IntKind} (hu : P.underlying t = some (.slice e)) (hi : P.info? e = some i) (hz : zeroT P e = some z) (hlc : l ≤ c)
    (hb48 : c * (i.bytes + 1) ≤ 1099511627776) (hzl : z.cells.length = i.size) :
    RawRow P μ w (Instr.makeSlice t (.int kl l) (.int kc c)) e (if c * i.size = 0 then [] else repeatL c z.cells) (fun a => .slice (some a) l c) := by
  obtain ⟨v, hv, rfl, hb⟩ := run_zero (w := w) hz
  have hc := (absV_rel μ v).cells hb
  have hbc : c ≤ 1099511627776 := Nat.le_trans (Nat.le_mul_of_pos_right c (by omega)) hb48
  have hcb : i.bytes * c ≤ 1099511627776 := by
    have : c * i.bytes ≤ c * (i.bytes + 1) := Nat.mul_le_mul_left c (by omega)
    rw [Nat.mul_comm]; omega
  have w64 : ∀ n : Nat, n ≤ 1099511627776 → IntKind.wrap .i64 (n : Int) = (n : Int) := fun n hn => wrap_nat n (by omega)
  have hwl := w64 l (by omega)
  have hwc := w64 c hbc
  have hnot : ¬ ((c : Int) < 0 || (i.bytes : Int) * (c : Int) > 2 ^ 48 || (l : Int) < 0 || (l : Int) > (c : Int)) = true := by
    have h1 : ((i.bytes : Int) * (c : Int)) ≤ 1099511627776 := by
      have h0 : ((i.bytes * c : Nat) : Int) ≤ 1099511627776 := by omega
      rw [Int.natCast_mul] at h0; exact h0
    have h2 : (2 : Int) ^ 48 = 281474976710656 := by rfl
    generalize (i.bytes : Int) * (c : Int) = q at h1 ⊢
    rw [h2]
    simp only [Bool.or_eq_true, decide_eq_true_eq]
    omega
  have key : ∀ zero : Array Value, VRels μ (if c * i.size = 0 then [] else repeatL c (absV v).cells) ((Array.range (c * i.size)).map (fun j => zero[j % zero.size]!)).toList →
      (Instr.makeSlice t (.int kl l) (.int kc c)).run P w = (do let a ← _root_.Go.newRow e ((Array.range (c * i.size)).map (fun j => zero[j % zero.size]!)); pure (.slice (some a) l c) : Sem Value).run P w →
      RawRow P μ w (Instr.makeSlice t (.int kl l) (.int kc c)) e (if c * i.size = 0 then [] else repeatL c (absV v).cells) (fun a => .slice (some a) l c) := by
    intro zero hz2 hrun
    refine ⟨_, hz2, ?_⟩
    rw [hrun]
    simp only [Sem.run_bind, Sem.run_pure]
    have n1 := run_newRow (P := P) (w := w) e ((Array.range (c * i.size)).map (fun j => zero[j % zero.size]!)).toList
    have : (⟨((Array.range (c * i.size)).map (fun j => zero[j % zero.size]!)).toList⟩ : Array Value) = ((Array.range (c * i.size)).map (fun j => zero[j % zero.size]!)) := rfl
    rw [this] at n1
    rw [n1]; rfl
  have hsz : (_root_.Go.sizeOf e).run P w = .ok i.size w := by simp [_root_.Go.sizeOf, run_typeInfo hi]
  by_cases h0 : c * i.size = 0
  · refine key #[] (by rw [if_pos h0, h0]; simp [VRels]) ?_
    simp only [Instr.makeSlice, Sem.run_bind, run_und hu, Result.andThen_ok, asInt, asIntOf, Sem.run_pure, run_typeInfo hi, hwl, hwc]
    rw [if_neg hnot]
    simp [hsz, h0]
  · refine key v.cells (by rw [if_neg h0]; exact zrow_rel hc hzl c) ?_
    simp only [Instr.makeSlice, Sem.run_bind, run_und hu, Result.andThen_ok, asInt, asIntOf, Sem.run_pure, run_typeInfo hi, hwl, hwc]
    rw [if_neg hnot]
    simp [hsz, h0, hv]

/-- What a block laid by itself is: in the model, and as the evaluator has it, wherever the evaluator puts it. -/
structure Laid (P : Program) (μ : Mu) (w : World) (s : Sem Next) (b : Nat) (v : AV) (ob : AObj) (u : Value) (X : Obj) (sz : Nat) : Prop where
  run : s.run P w = .ok (.value u) (w.alloc X)
  val : ∀ μ', Le μ μ' → μ' b = some ⟨w.heap.size, 0, sz⟩ → VRel μ' v u
  obj : ∀ μ' w', Le μ μ' → w'.heap[w.heap.size]? = some X → ORel μ' ob ⟨w.heap.size, 0, sz⟩ w'
  ro : ob.isRo = false

theorem RawRow.laid {s : Sem Value} {e : TypeId} {cs : List AV} {val : Addr → Value} (h : RawRow P μ w s e cs val) {b : Nat} {v : AV} (hv : ∀ μ' sz, μ' b = some ⟨w.heap.size, 0, sz⟩ → VRel μ' v (val ⟨w.heap.size, 0, none⟩)) :
    ∃ u X sz, Laid P μ w (do pure (.value (← s))) b v (.cells cs e .own 0 0) u X sz := by
  obtain ⟨us, h1, h2⟩ := h
  refine ⟨_, .cells ⟨us⟩ e, us.length, by simp [h2], fun μ' _ hm => hv μ' _ hm, fun μ' w' hle hX => ?_, rfl⟩
  exact ⟨⟨us⟩, 0, 0, hX, fun j v hj => by
    obtain ⟨u, hu, hr⟩ := h1.get hj
    exact ⟨u, by simpa using hu, hr.mono hle⟩, by simp, rfl, h1.length.symm, rfl, rfl⟩

theorem allocA_ok (o : Oper) {g : Operand → AV} {ρ : Operand → Value} (hg : ∀ x, VRel μ (g x) (ρ x)) {b : Nat} {v : AV} {ob : AObj} (h : allocA P o.op g b = some (v, ob)) :
    ∃ u X sz, Laid P μ w (execOp ρ o) b v ob u X sz := by
  obtain ⟨dst, op, type, pos, after, guard⟩ := o
  cases op <;> simp only [allocA] at h <;> try (cases h; done)
  case alloc e =>
    split at h
    · rename_i z hz
      split at h
      · cases h
        exact (alloc_raw hz).laid fun μ' sz hm => ⟨_, hm, rfl⟩
      · cases h
    · cases h
  case box e x =>
    split at h
    · rename_i hall
      cases h
      have hb : g x ≠ .bad := by intro e; rw [e] at hall; simp [AV.cells, AV.isCell] at hall
      exact (box_raw (hg x) hb).laid fun μ' sz hm => ⟨_, hm, rfl⟩
    · cases h
  case buildSlice t len parts =>
    split at h
    · rename_i e hu
      split at h
      · rename_i sz z hs hz
        split at h
        · rename_i cs hc hf
          rw [Bool.and_eq_true, Nat.ble_eq, Nat.beq_eq] at hc
          split at h
          · cases h
            exact (buildSlice_raw g ρ hg hu hs hz hc.1 hc.2 parts hf).laid fun μ' sz hm => ⟨_, hm, rfl⟩
          · cases h
        · cases h
      · cases h
    · cases h
  case makeMap t r =>
    cases r with
    | some x => cases h
    | none =>
      cases h
      exact ⟨.map (some w.heap.size), .map #[] 0, 0, rfl, fun μ' _ hm => ⟨_, hm, rfl⟩, fun μ' w' _ hX => ⟨[], hX, rfl⟩, rfl⟩
  case makeSlice t l c =>
    split at h
    · rename_i e l' c' hu hl hc
      obtain ⟨kl, el⟩ := asN_int hl (hg l)
      obtain ⟨kc, ec⟩ := asN_int hc (hg c)
      split at h
      · rename_i i z hi hz
        split at h
        · rename_i cs hcond
          split at h
          · cases h
            rw [Bool.and_eq_true, Bool.and_eq_true, Nat.ble_eq, Nat.beq_eq, decide_eq_true_eq] at hcond
            have := (makeSlice_raw (P := P) (μ := μ) (w := w) (kl := kl) (kc := kc) hu hi hz hcond.1.1 hcond.1.2 hcond.2).laid (b := b) (v := .slice b 0 l' (.exact c')) fun μ' sz hm => ⟨_, hm, rfl⟩
            simp only [execOp, el, ec]
            exact this
          · cases h
        · cases h
      · cases h
    · cases h
end
end AEv

/-
  THE ABSTRACT EVALUATOR: one operation in its frame: what the machine does with it.
-/
namespace AEv
open Go

/-- The variables stand where the evaluator looks for them. -/
def GRel (P : Program) (μ : Mu) : Prop := ∀ g, g < P.globals.size → ∃ i, μ g = some i ∧ i.blk = g ∧ i.base = 0
theorem GRel.mono {P : Program} {μ μ' : Mu} (h : GRel P μ) (hle : Le μ μ') : GRel P μ' := fun g hg => let ⟨i, h1, h2⟩ := h g hg; ⟨i, hle _ _ h1, h2⟩

/-- How a call ends, for the evaluator. -/
def Ends (μ : Mu) (H : AHeap) (w : World) : FRes → Ending → World → Prop
  | .ret v H', e, w' => ∃ μ' u, e = .returned u ∧ VRel μ' v u ∧ HRel μ' H' w' ∧ Adv μ H w μ' H' w'
  | .pan v H', e, w' => ∃ μ' u, e = .panicked [{ v := u, recovered := false }] ∧ VRel μ' v u ∧ HRel μ' H' w' ∧ Adv μ H w μ' H' w'
  | .fail _, _, _ => True
def FRes.good : FRes → Bool
  | .fail _ => false
  | _ => true

/-- The call of a function, whatever it is. -/
def FnGoes (P : Program) (f : FuncId) (vs : List Value) (w : World) (R : Ending → World → Prop) : Prop :=
  (∃ v w', (callFunc f ⟨vs⟩).run P w = .ok (.value v) w' ∧ R (.returned v) w') ∨
  ((callFunc f ⟨vs⟩).run P w = .ok (.enter f ⟨vs⟩) w ∧ Calls P f ⟨vs⟩ w R)
/-- A machine comes back to the frame ahead. -/
def Lands (P : Program) (m : Machine) (c : Frame) (cs : List Frame) (R : Ending → World → Prop) : Prop :=
  ∃ e w', R e w' ∧ match e with
    | .returned v => Steps P m (lone (c.finish v) cs w')
    | .panicked chain => Steps P m (lone (c.raise chain) cs w')
    | .outgrown => False
/-- A round. -/
def YldGoes (P : Program) (l : Nat) (vs : List Value) (w : World) (R : Ending → World → Prop) : Prop :=
  ∃ f tmps assign body, (Instr.yield l ⟨vs⟩).run P w = .ok (.round l f tmps assign body) w ∧ ∀ c cs, Lands P (lone (Frame.round l f tmps assign body .normal) (c :: cs) w) c cs R

structure CallOK (P : Program) (call : CallT → List AV → AHeap → FRes) : Prop where
  fn : ∀ f args H, (call (.fn f) args H).good = true → ∀ μ w (vs : List Value), HRel μ H w → GRel P μ → VRels μ args vs → FnGoes P f vs w (Ends μ H w (call (.fn f) args H))
  yld : ∀ l args H, (call (.yld l) args H).good = true → ∀ μ w i (vs : List Value), HRel μ H w → GRel P μ → μ l = some i → VRels μ args vs → YldGoes P i.blk vs w (Ends μ H w (call (.yld l) args H))

theorem Lands.of_steps {P : Program} {m m1 : Machine} {c : Frame} {cs : List Frame} {R : Ending → World → Prop} (h : Steps P m m1) (h' : Lands P m1 c cs R) : Lands P m c cs R := by
  obtain ⟨e, w', hr, hs⟩ := h'
  refine ⟨e, w', hr, ?_⟩
  cases e with
  | returned v => exact h.trans hs
  | panicked ch => exact h.trans hs
  | outgrown => exact hs.elim
theorem lands_of_calls {P : Program} {f : FuncId} {args : Array Value} {w : World} {R : Ending → World → Prop} (hR : ∀ w', ¬ R .outgrown w') (h : Calls P f args w R) (c : Frame) (cs : List Frame) :
    Lands P (lone (Frame.enter P f args .normal) (c :: cs) w) c cs R := by
  obtain ⟨e, w', fr, hr, hc, _, hl⟩ := h (c :: cs)
  refine ⟨e, w', hr, ?_⟩
  cases e with
  | returned v => exact Steps.trans hc (.one (step_leave_returned hl))
  | panicked ch => exact Steps.trans hc (.one (step_leave_panicked hl))
  | outgrown => exact (hR _ hr).elim

/-- Who is to be caught by a recover, and what its frame is then. -/
def QRel (μ : Mu) (kind : CallKind) (cs0 : List Frame) : Rc → List Frame → Prop
  | .none, cs => cs = cs0 ∧ ∀ fr : Frame, fr.kind = kind → tryRecover fr cs0 = none
  | .act v, cs => cs = cs0 ∧ kind = .deferred ∧ ∃ c rest u, cs0 = c :: rest ∧ c.mode = .panicking [{ v := u, recovered := false }] ∧ VRel μ v u
  | .done v, cs => kind = .deferred ∧ ∃ c rest u, cs0 = c :: rest ∧ c.mode = .panicking [{ v := u, recovered := false }] ∧ VRel μ v u ∧ cs = { c with mode := .panicking [{ v := u, recovered := true }] } :: rest
theorem QRel.mono {μ μ' : Mu} (hle : Le μ μ') {kind : CallKind} {cs0 cs : List Frame} {q : Rc} (h : QRel μ kind cs0 q cs) : QRel μ' kind cs0 q cs := by
  cases q with
  | none => exact h
  | act v => obtain ⟨h1, h2, c, rest, u, h3, h4, h5⟩ := h; exact ⟨h1, h2, c, rest, u, h3, h4, h5.mono hle⟩
  | done v => obtain ⟨h1, c, rest, u, h3, h4, h5, h6⟩ := h; exact ⟨h1, c, rest, u, h3, h4, h5.mono hle, h6⟩

section
variable {P : Program} {μ : Mu} {H : AHeap} {w : World}

theorem stepG_goes {b : Frame} {a : Act} {ops : Array Oper} {i : Nat} {rest : List Nat} {k : List Item} {cs : List Frame} {s : Sem Next}
    (hst : stepG P true { frame := b.atR a (.inRegion ops (i :: rest) :: k), callers := cs, status := .running, dying := none } w = stepG.apply P true (b.atR a (.inRegion ops (i :: rest) :: k)) cs none s w) :
    (∀ v w', s.run P w = .ok (.value v) w' → Steps P (lone (b.atR a (.inRegion ops (i :: rest) :: k)) cs w) (lone ((b.atR a (.inRegion ops (i :: rest) :: k)).finish v) cs w')) ∧
    (∀ w', s.run P w = .ok .skip w' → Steps P (lone (b.atR a (.inRegion ops (i :: rest) :: k)) cs w) (lone ((b.atR a (.inRegion ops (i :: rest) :: k)).finish undef) cs w')) ∧
    (∀ u w', s.run P w = .halt (.panic u) w' → Steps P (lone (b.atR a (.inRegion ops (i :: rest) :: k)) cs w) (lone ((b.atR a (.inRegion ops (i :: rest) :: k)).raise [{ v := u, recovered := false }]) cs w')) ∧
    (∀ d w', s.run P w = .ok (.defer d) w' → Steps P (lone (b.atR a (.inRegion ops (i :: rest) :: k)) cs w) (lone (b.atR ({ a with defers := d :: a.defers }.put ((ops[i]?).bind (·.dst)) undef) (.inRegion ops rest :: k)) cs w')) ∧
    (∀ f args w', s.run P w = .ok (.enter f args) w' → Steps P (lone (b.atR a (.inRegion ops (i :: rest) :: k)) cs w) (lone (Frame.enter P f args .normal) (b.atR a (.inRegion ops (i :: rest) :: k) :: cs) w')) ∧
    (∀ l f tmps assign body w', s.run P w = .ok (.round l f tmps assign body) w' → Steps P (lone (b.atR a (.inRegion ops (i :: rest) :: k)) cs w) (lone (Frame.round l f tmps assign body .normal) (b.atR a (.inRegion ops (i :: rest) :: k) :: cs) w')) ∧
    (b.roundOf = none → ∀ w', s.run P w = .ok .recover w' → ∀ v cs', tryRecover (b.atR a (.inRegion ops (i :: rest) :: k)) cs = some (v, cs') → Steps P (lone (b.atR a (.inRegion ops (i :: rest) :: k)) cs w) (lone ((b.atR a (.inRegion ops (i :: rest) :: k)).finish v) cs' w')) ∧
    (b.roundOf = none → ∀ w', s.run P w = .ok .recover w' → tryRecover (b.atR a (.inRegion ops (i :: rest) :: k)) cs = none → Steps P (lone (b.atR a (.inRegion ops (i :: rest) :: k)) cs w) (lone ((b.atR a (.inRegion ops (i :: rest) :: k)).finish .nilIface) cs w')) := by
  refine ⟨fun v w' hr => .one (step_lone_go ?_), fun w' hr => .one (step_lone_go ?_), fun u w' hr => .one (step_lone_go ?_), fun d w' hr => .one (step_lone_go ?_), fun f args w' hr => .one (step_lone_go ?_), fun l f tmps assign body w' hr => .one (step_lone_go ?_), fun hb w' hr v cs' ht => .one (step_lone_go ?_), fun hb w' hr ht => .one (step_lone_go ?_)⟩
  · rw [hst]; simp [stepG.apply, hr]
  · rw [hst]; simp [stepG.apply, hr]
  · rw [hst]; simp [stepG.apply, hr]
  · rw [hst]
    have := Frame.finish_atR b { a with defers := d :: a.defers } ops i rest k undef
    simp only [stepG.apply, Sem.runT_eq, hr, GStep.bare_after]
    exact congrArg (fun fr => GStep.go { frame := fr, callers := cs, status := .running, dying := none } w') this
  · rw [hst]; simp [stepG.apply, hr, Frame.atR]
  · rw [hst]; simp [stepG.apply, hr, Frame.atR]
  · rw [hst]
    have hb' : (b.atR a (.inRegion ops (i :: rest) :: k)).roundOf = none := hb
    simp [stepG.apply, hr, hb', ht]
  · rw [hst]
    have hb' : (b.atR a (.inRegion ops (i :: rest) :: k)).roundOf = none := hb
    simp [stepG.apply, hr, hb', ht]

def SOk (P : Program) (μ : Mu) (H : AHeap) (w : World) (b : Frame) (a : Act) (ops : Array Oper) (o : Oper) (i : Nat) (rest : List Nat) (k : List Item) (cs0 cs : List Frame) : SRes → Prop
  | .ok v d' q' H' => ∃ μ' w' u ds' cs', Steps P (lone (b.atR a (.inRegion ops (i :: rest) :: k)) cs w) (lone (b.atR { tmps := (a.put o.dst u).tmps, defers := ds' } (.inRegion ops rest :: k)) cs' w') ∧
      VRel μ' v u ∧ HRel μ' H' w' ∧ Adv μ H w μ' H' w' ∧ DRels μ' d' ds' ∧ QRel μ' b.kind cs0 q' cs'
  | .pan v d' q' H' => ∃ μ' w' u, Steps P (lone (b.atR a (.inRegion ops (i :: rest) :: k)) cs w) (lone { b.atR a (.inRegion ops (i :: rest) :: k) with mode := .panicking [{ v := u, recovered := false }] } cs w') ∧
      VRel μ' v u ∧ HRel μ' H' w' ∧ Adv μ H w μ' H' w' ∧ DRels μ' d' a.defers ∧ QRel μ' b.kind cs0 q' cs
  | .fail _ => True

theorem put_defers (a : Act) (dst : Option Tmp) (u : Value) : (a.put dst u).defers = a.defers := by cases dst <;> rfl
theorem put_eta (a : Act) (dst : Option Tmp) (u : Value) : a.put dst u = { tmps := (a.put dst u).tmps, defers := a.defers } := by cases dst <;> rfl
theorem put_tmps (a : Act) (ds : List Deferred) (dst : Option Tmp) (u : Value) : ({ a with defers := ds } : Act).put dst u = { tmps := (a.put dst u).tmps, defers := ds } := by cases dst <;> rfl

theorem sok_land {b : Frame} {a : Act} {ops : Array Oper} {o : Oper} {i : Nat} {rest : List Nat} {k : List Item} {cs0 cs : List Frame} (ho : ops[i]? = some o) {d : List ADef} {q : Rc}
    (hd : DRels μ d a.defers) (hq : QRel μ b.kind cs0 q cs) {r : FRes} {m : Machine} (hs : Steps P (lone (b.atR a (.inRegion ops (i :: rest) :: k)) cs w) m)
    (hl : Lands P m (b.atR a (.inRegion ops (i :: rest) :: k)) cs (Ends μ H w r)) : SOk P μ H w b a ops o i rest k cs0 cs (ofF d q r) := by
  obtain ⟨e, w', hr, hst⟩ := hl
  cases r with
  | ret v H' =>
    obtain ⟨μ', u, rfl, h1, h2, h3⟩ := hr
    refine ⟨μ', w', u, a.defers, cs, hs.trans ?_, h1, h2, h3, hd.mono h3.le, hq.mono h3.le⟩
    have : (b.atR a (.inRegion ops (i :: rest) :: k)).finish u = b.atR { tmps := (a.put o.dst u).tmps, defers := a.defers } (.inRegion ops rest :: k) := by
      rw [Frame.finish_atR, ho, ← put_eta]; rfl
    rw [← this]; exact hst
  | pan v H' =>
    obtain ⟨μ', u, rfl, h1, h2, h3⟩ := hr
    exact ⟨μ', w', u, hs.trans hst, h1, h2, h3, hd.mono h3.le, hq.mono h3.le⟩
  | fail w => trivial

theorem good_false {r : FRes} (h : r.good = false) : ∃ s, r = .fail s := by
  cases r with
  | fail s => exact ⟨s, rfl⟩
  | _ => cases h
theorem ends_not_outgrown {r : FRes} (hg : r.good = true) : ∀ w', ¬ Ends μ H w r .outgrown w' := by
  intro w' h
  cases r with
  | ret v H' => obtain ⟨_, _, e, _⟩ := h; cases e
  | pan v H' => obtain ⟨_, _, e, _⟩ := h; cases e
  | fail s => cases hg

theorem evOne_ok {call : CallT → List AV → AHeap → FRes} (hc : CallOK P call) (hh : HRel μ H w) (hgl : GRel P μ) {b : Frame} {a : Act} {ops : Array Oper} {o : Oper} {i : Nat} {rest : List Nat} {k : List Item} {cs0 cs : List Frame}
    (ho : ops[i]? = some o) {gd : Option (AV × Bool)} (hgd : ∀ wb, wantedA gd = some wb → Region.wanted o (yielded ops a.tmps) = wb) {g : Operand → AV} (hg : ∀ x, VRel μ (g x) (a.eval x)) {d : List ADef} {q : Rc}
    (hd : DRels μ d a.defers) (hq : QRel μ b.kind cs0 q cs) {inR : Bool} (hin : inR = b.roundOf.isSome) : SOk P μ H w b a ops o i rest k cs0 cs (evOne P inR call gd o g d q H) := by
  unfold evOne
  have hfin : ∀ u, (b.atR a (.inRegion ops (i :: rest) :: k)).finish u = b.atR { tmps := (a.put o.dst u).tmps, defers := a.defers } (.inRegion ops rest :: k) := fun u => by
    rw [Frame.finish_atR, ho, ← put_eta]; rfl
  split
  · trivial
  · rename_i hw
    have hwf := hgd _ hw
    refine ⟨μ, w, undef, a.defers, cs, ?_, ⟨[], rfl, rfl⟩, hh, Adv.refl _ _ _, hd, hq⟩
    have hs := stepR_op_skip (P := P) (b := b) (a := a) (k := k) (cs := cs) (w := w) (ops := ops) (i := i) (rest := rest) (by simp [ho, hwf])
    rw [ho] at hs
    have he : a.put ((some o).bind (·.dst)) undef = { tmps := (a.put o.dst undef).tmps, defers := a.defers } := put_eta a o.dst undef
    rw [he] at hs
    exact .one hs
  · rename_i hw
    have hwt := hgd _ hw
    have hst := stepGR_op (P := P) (b := b) (a := a) (k := k) (cs := cs) (w := w) (rest := rest) ho hwt
    have hop := evOp_ok (P := P) hh o hg
    by_cases hdef : b.roundOf.isSome = true ∧ ∃ c, o.op = .defer c
    · obtain ⟨hr, c, hoc⟩ := hdef
      -- a deferred call in a round: the evaluator does not go there
      have : (∃ x, evOp P o g H = .dfr x) ∨ ∃ s, evOp P o g H = .fail s := by
        unfold evOp
        rw [hoc]
        simp only
        split
        · split
          · exact .inl ⟨_, rfl⟩
          · exact .inr ⟨_, rfl⟩
        · exact .inr ⟨_, rfl⟩
      rcases this with ⟨x, e⟩ | ⟨s, e⟩
      · rw [e]; simp only [hin, hr, if_true]; trivial
      · rw [e]; trivial
    · have hsem : o.semAt b.roundOf a.eval = execOp a.eval o := by
        cases hro : b.roundOf with
        | none => rfl
        | some l => exact Oper.semAt_eq _ _ _ fun c e => hdef ⟨by rw [hro]; rfl, c, e⟩
      rw [hsem] at hst
      obtain ⟨g1, g2, g3, g4, g5, g6, g7, g8⟩ := stepG_goes hst
      cases hev : evOp P o g H with
      | val v H' =>
        rw [hev] at hop
        obtain ⟨μ', w', u, hr, h1, h2, h3⟩ := hop
        refine ⟨μ', w', u, a.defers, cs, ?_, h1, h2, h3, hd.mono h3.le, hq.mono h3.le⟩
        rw [← hfin]
        rcases hr with hr | ⟨rfl, hr⟩
        · exact g1 _ _ hr
        · exact g2 _ hr
      | pan v H' =>
        rw [hev] at hop
        obtain ⟨rfl, u, hr, h1⟩ := hop
        exact ⟨μ, w, u, g3 _ _ hr, h1, hh, Adv.refl _ _ _, hd, hq⟩
      | call f args H' =>
        rw [hev] at hop
        obtain ⟨rfl, vs, hr, h1⟩ := hop
        simp only
        cases hgood : (call (.fn f) args H').good with
        | false => obtain ⟨s, hs⟩ := good_false hgood; rw [hs]; trivial
        | true =>
          rcases hc.fn f args H' hgood μ w vs hh hgl h1 with ⟨v, w', q1, q2⟩ | ⟨q1, q2⟩
          · rw [← hr] at q1
            have hs := g1 _ _ q1
            cases hcr : call (.fn f) args H' with
            | fail s => trivial
            | ret v' H2 =>
              rw [hcr] at q2
              obtain ⟨μ', u, e, h2, h3, h4⟩ := q2
              cases e
              exact ⟨μ', w', _, a.defers, cs, by rw [← hfin]; exact hs, h2, h3, h4, hd.mono h4.le, hq.mono h4.le⟩
            | pan v' H2 =>
              rw [hcr] at q2
              obtain ⟨μ', u, e, h2, h3, h4⟩ := q2
              cases e
          · rw [← hr] at q1
            have hs := g5 _ _ _ q1
            exact sok_land ho hd hq hs (lands_of_calls (ends_not_outgrown hgood) q2 _ _)
      | yld l args H' =>
        rw [hev] at hop
        obtain ⟨rfl, im, vs, hl, hr, h1⟩ := hop
        simp only
        cases hgood : (call (.yld l) args H').good with
        | false => obtain ⟨s, hs⟩ := good_false hgood; rw [hs]; trivial
        | true =>
          obtain ⟨f, tmps, as, bd, q1, q2⟩ := hc.yld l args H' hgood μ w im vs hh hgl hl h1
          rw [← hr] at q1
          have hs := g6 _ _ _ _ _ _ q1
          exact sok_land ho hd hq hs (q2 _ _)
      | dfr x =>
        rw [hev] at hop
        obtain ⟨dd, hr, h1⟩ := hop
        simp only
        split
        · trivial
        · refine ⟨μ, w, undef, dd :: a.defers, cs, ?_, ⟨[], rfl, rfl⟩, hh, Adv.refl _ _ _, ⟨_, _, rfl, h1, hd⟩, hq⟩
          have hs := g4 _ _ hr
          rw [ho] at hs
          have he : ({ a with defers := dd :: a.defers } : Act).put ((some o).bind (·.dst)) undef = { tmps := (a.put o.dst undef).tmps, defers := dd :: a.defers } := put_tmps a _ o.dst undef
          rw [he] at hs
          exact hs
      | rcv =>
        rw [hev] at hop
        have hr : (execOp a.eval o).run P w = .ok .recover w := hop
        simp only
        split
        · trivial
        · rename_i hnr
          have hbr : b.roundOf = none := by
            cases hro : b.roundOf with
            | none => rfl
            | some l => rw [hro] at hin; exact absurd hin hnr
          have hk : (b.atR a (.inRegion ops (i :: rest) :: k)).kind = b.kind := rfl
          split
          · obtain ⟨rfl, ht⟩ := hq
            refine ⟨μ, w, .nilIface, a.defers, cs, ?_, rfl, hh, Adv.refl _ _ _, hd, ⟨rfl, ht⟩⟩
            rw [← hfin]
            exact g8 hbr _ hr (ht _ hk)
          · have hq' := hq
            obtain ⟨hkd, c, rs, u, e1, e2, e3, rfl⟩ := hq
            refine ⟨μ, w, .nilIface, a.defers, _, ?_, rfl, hh, Adv.refl _ _ _, hd, hq'⟩
            rw [← hfin]
            refine g8 hbr _ hr ?_
            have hk2 : (b.atR a (.inRegion ops (i :: rest) :: k)).kind = .deferred := hk.trans hkd
            simp only [tryRecover, hk2]
          · obtain ⟨rfl, hkd, c, rs, u, e1, e2, e3⟩ := hq
            subst e1
            refine ⟨μ, w, u, a.defers, { c with mode := .panicking [{ v := u, recovered := true }] } :: rs, ?_, e3, hh, Adv.refl _ _ _, hd, ⟨hkd, c, rs, u, rfl, e2, e3, rfl⟩⟩
            rw [← hfin]
            refine g7 hbr _ hr _ _ ?_
            have hk2 : (b.atR a (.inRegion ops (i :: rest) :: k)).kind = .deferred := hk.trans hkd
            simp only [tryRecover, hk2, e2]
      | fail s => trivial
end
end AEv
