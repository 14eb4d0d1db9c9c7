/-
  PROVED HERE: contracts of functions (Sxb). No condition beside each statement's own.
-/
import Derived.Test.YtlelojncabdnoaaDoorSxa
import Derived.Test.YtlelojncabdnoaaDoorAed
import Derived.Shelf.SlSortCmp.NoneTotal
set_option linter.unusedVariables false
set_option linter.unusedSimpArgs false
namespace AEv
open Go

section
variable {D : Type}

/-- The cells of a row of elements. -/
def rowL (enc : D → List AV) (ds : List D) : List AV := ds.flatMap enc
theorem flat_get {A : Type} {enc : D → List A} {w : Nat} (hw : ∀ d, (enc d).length = w) : ∀ (ds : List D) (j : Nat), (ds.flatMap enc)[j]? = if j < ds.length * w then (ds[j / w]?).bind (fun d => (enc d)[j % w]?) else none
  | [], j => by simp
  | d :: ds, j => by
    rw [List.flatMap_cons, List.getElem?_append, hw]
    by_cases h : j < w
    · have h1 : j / w = 0 := Nat.div_eq_of_lt h
      have h2 : j % w = j := Nat.mod_eq_of_lt h
      rw [if_pos h, if_pos (by rw [List.length_cons, Nat.add_mul]; omega), h1, h2]; rfl
    · have hw0 : 0 < w ∨ w = 0 := by omega
      rcases hw0 with h0 | h0
      · obtain ⟨k, rfl⟩ : ∃ k, j = k + w := ⟨j - w, by omega⟩
        rw [if_neg h, Nat.add_sub_cancel, flat_get hw ds k, Nat.add_div_right k h0, Nat.add_mod_right]
        have : (k < ds.length * w) = (k + w < (d :: ds).length * w) := by rw [List.length_cons, Nat.add_mul]; apply propext; omega
        simp only [this]; rfl
      · subst h0
        rw [if_neg h, flat_get hw ds (j - 0)]
        simp
theorem rowL_len {enc : D → List AV} {w : Nat} (hw : ∀ d, (enc d).length = w) : ∀ ds : List D, (rowL enc ds).length = ds.length * w
  | [] => by simp [rowL]
  | d :: ds => by
    have := rowL_len hw ds
    unfold rowL at this ⊢
    rw [List.flatMap_cons, List.length_append, hw, this, List.length_cons, Nat.add_mul]; omega
theorem rowL_inj {enc : D → List AV} {w : Nat} (hw : ∀ d, (enc d).length = w) (hi : ∀ d d', enc d = enc d' → d = d') : ∀ (ds ds' : List D) (r r' : List AV), ds.length = ds'.length → rowL enc ds ++ r = rowL enc ds' ++ r' → ds = ds' ∧ r = r'
  | [], [], r, r', _, h => ⟨rfl, by simpa [rowL] using h⟩
  | [], _ :: _, _, _, h, _ => by simp at h
  | _ :: _, [], _, _, h, _ => by simp at h
  | d :: ds, d' :: ds', r, r', hl, h => by
    simp only [rowL, List.flatMap_cons, List.append_assoc] at h
    obtain ⟨h1, h2⟩ := List.append_inj h (by rw [hw, hw])
    obtain ⟨h3, h4⟩ := rowL_inj hw hi ds ds' r r' (by simpa using hl) h2
    exact ⟨by rw [hi _ _ h1, h3], h4⟩

theorem rowL_app (enc : D → List AV) (l m : List D) : rowL enc (l ++ m) = rowL enc l ++ rowL enc m := by simp [rowL]
theorem rowL_cons (enc : D → List AV) (d : D) (m : List D) : rowL enc (d :: m) = enc d ++ rowL enc m := rfl
section
variable {enc : D → List AV} {w : Nat}
theorem row_cells (hc : ∀ d, (enc d).all AV.isCell = true) : ∀ ds : List D, (rowL enc ds).all AV.isCell = true
  | [] => rfl
  | d :: ds => by rw [rowL_cons, List.all_append, hc, row_cells hc ds]; rfl
end
end
end AEv

namespace AEv
open Go Go.Sort Go.Proofs Go.Shelf

section
variable {D : Type}

/-- A row of elements lies in a block. -/
def RowAt (enc : D → List AV) (H : AHeap) (b len : Nat) (x : List D × List AV × Nat × BK) : Prop :=
  H.get b = some (.cells (rowL enc x.1 ++ x.2.1) x.2.2.1 x.2.2.2 0 0) ∧ x.1.length = len ∧ (x.2.2.2 = .own ∨ x.2.2.2 = .opn)
open Classical in
/-- slices.SortFunc, at one way of comparing. -/
noncomputable def sortI (enc : D → List AV) (srt : List D → List D) (fS g : Nat) (f : Nat) (args : List AV) (H : AHeap) : Option (AV × AHeap) := match Nat.beq f fS with
  | false => none
  | true => match args with
    | [.slice b off len _, .fn g' [] []] =>
      if h : off = 0 ∧ g' = g ∧ 0 < len ∧ len < 4611686018427387904 ∧ ∃ x, RowAt enc H b len x then
        some (.tup [], H.set b (some (.cells (rowL enc (srt h.2.2.2.2.choose.1) ++ h.2.2.2.2.choose.2.1) h.2.2.2.2.choose.2.2.1 h.2.2.2.2.choose.2.2.2 0 0)))
      else none
    | _ => none
theorem sortI_eq {enc : D → List AV} {srt : List D → List D} {w : Nat} (hw : ∀ d, (enc d).length = w) (hi : ∀ d d', enc d = enc d' → d = d') {fS g b len : Nat} {cap : Cap} {H : AHeap} {ds : List D} {rest : List AV} {el : Nat} {k : BK}
    (h0 : 0 < len) (h1 : len < 4611686018427387904) (hg : H.get b = some (.cells (rowL enc ds ++ rest) el k 0 0)) (hl : ds.length = len) (hk : k = .own ∨ k = .opn) :
    sortI enc srt fS g fS [.slice b 0 len cap, .fn g [] []] H = some (.tup [], H.set b (some (.cells (rowL enc (srt ds) ++ rest) el k 0 0))) := by
  have hb : Nat.beq fS fS = true := by simp
  have hx : ∃ x, RowAt enc H b len x := ⟨(ds, rest, el, k), hg, hl, hk⟩
  unfold sortI
  simp only [hb]
  rw [dif_pos ⟨rfl, rfl, h0, h1, hx⟩]
  obtain ⟨c1, c2, c3⟩ := hx.choose_spec
  generalize hx.choose = x at c1 c2 c3
  obtain ⟨ds', rest', el', k'⟩ := x
  simp only at c1 c2 c3
  rw [hg] at c1
  simp only [Option.some.injEq, AObj.cells.injEq] at c1
  obtain ⟨e1, e2, e3, _⟩ := c1
  obtain ⟨rfl, rfl⟩ := rowL_inj hw hi _ _ _ _ (by omega) e1
  subst e2; subst e3; rfl
end

section
variable {P : Program} {μ : Mu} {H : AHeap}
theorem HRel.grow {w : World} (h : HRel μ H w) (os : Array Obj) : HRel μ H (Go.Sort.grow w os) ∧ Adv μ H w μ H (Go.Sort.grow w os) := by
  have hold : ∀ r, r < w.heap.size → (Go.Sort.grow w os).heap[r]? = w.heap[r]? := fun r hr => heap_grow_old w os hr
  refine ⟨⟨fun b o i hb hi => (h.rel b o i hb hi).mono (Le.refl μ) (hold _ (h.lt b i hi).2), h.inj, fun b i hi => ⟨(h.lt b i hi).1, by have := (h.lt b i hi).2; simp; omega⟩, h.bound⟩, ?_⟩
  exact ⟨Le.refl μ, by simp, Nat.le_refl _, fun _ _ hl => hl, fun _ _ _ => rfl, fun r hr _ => hold r hr, fun b i h1 h2 => (by rw [h1] at h2; cases h2), fun b o i hb _ hi => ⟨hb, hold _ (h.lt b i hi).2⟩, rfl, rfl, rfl, Nat.le_refl _⟩
/-- A world that has only blocks more, and draws. -/
theorem grown_of {w w' : World} (hs : w.heap.size ≤ w'.heap.size) (ho : ∀ r, r < w.heap.size → w'.heap[r]? = w.heap[r]?) (h1 : w'.os = w.os) (h2 : w'.output = w.output) (h3 : w'.tape = w.tape) (h4 : w.drawn ≤ w'.drawn) :
    ∃ q os', w' = Go.Sort.grow (w.drewN q) os' := by
  refine ⟨w'.drawn - w.drawn, w'.heap.extract w.heap.size w'.heap.size, ?_⟩
  have hh : w'.heap = w.heap ++ w'.heap.extract w.heap.size w'.heap.size := by
    apply Array.ext_getElem?
    intro k
    rw [Array.getElem?_append]
    by_cases hk : k < w.heap.size
    · rw [if_pos hk, ho k hk]
    · rw [if_neg hk, Array.getElem?_extract]
      by_cases h5 : k < w'.heap.size
      · rw [if_pos (by omega)]; congr 1; omega
      · rw [if_neg (by omega), Array.getElem?_eq_none (by omega)]
  have hd : w'.drawn = w.drawn + (w'.drawn - w.drawn) := by omega
  cases w'
  simp only at h1 h2 h3 hh hd
  subst h1; subst h2; subst h3
  unfold Go.Sort.grow World.drewN
  simp only [← hd, ← hh]

variable {D : Type} [Inhabited D] {ρ : Ren}
theorem sortI_ok (hf : Fit P) (L : SlLaysF0.n6 P ρ) {w : Nat} (hw0 : 0 < w) (aE : ∀ W, (isAgg (ρ.t 24)).run P W = .ok true W) (zE : ∀ W, (Go.sizeOf (ρ.t 24)).run P W = .ok w W)
    {encA : D → List AV} {encV : D → List Value} (hA : ∀ d, (encA d).length = w) (hV : ∀ d, (encV d).length = w)
    (hr1 : ∀ (μ : Mu) d (t : Nat) a u, (encA d)[t]? = some a → VRel μ a u → (encV d)[t]? = some u) (hr2 : ∀ (μ : Mu) d (t : Nat) a u, (encA d)[t]? = some a → (encV d)[t]? = some u → VRel μ a u)
    (h1 : ∀ d, ∀ v ∈ encV d, v.oneCell' = true) (cf : D → D → Int) (hO : SWO (ltOf cf)) (hT : ∀ x y, (ltOf cf) x y = false → (ltOf cf) y x = false → x = y)
    {g : Nat} {fng : Func} {cg : Code} (hg : P.funcs[g]? = some fng) (hgb : fng.body = some cg)
    {intr : Nat → List AV → AHeap → Option (AV × AHeap)} (hi : IntrOK P intr) (hcmp : ∀ x y, ∃ n H', callN P intr n (.fn g) [.agg (encA x), .agg (encA y)] (emptyHeap P.globals.size) = .ret (.int .i64 (cf x y)) H') :
    IntrOK P (sortI encA (fun l => l.mergeSort fun x y => !(ltOf cf) y x) (ρ.f 6) g) := by
  intro f args H v H' hx μ W vs hh hG hv
  unfold sortI at hx
  cases hb : Nat.beq f (ρ.f 6) with
  | false => rw [hb] at hx; cases hx
  | true =>
    rw [hb] at hx
    have hfe : f = ρ.f 6 := Nat.eq_of_beq_eq_true hb
    subst hfe
    simp only at hx
    split at hx
    · rename_i b off len cap g'
      split at hx
      · rename_i hc
        cases hx
        obtain ⟨rfl, rfl, h0, hlt, hex⟩ := hc
        obtain ⟨r1, r2, r3⟩ := hex.choose_spec
        generalize hex.choose = x at r1 r2 r3
        obtain ⟨ds, rest, el, k⟩ := x
        simp only at r1 r2 r3 ⊢
        obtain ⟨v1, vs1, rfl, q1, v2, vs2, rfl, q2, rfl⟩ := hv
        obtain ⟨i, him, hcap⟩ := q1
        obtain ⟨cp, rfl⟩ : ∃ cp, v1 = .slice (some ⟨i.blk, i.base, none⟩) len cp := by
          cases cap with
          | exact c => exact ⟨c, hcap⟩
          | opn e => obtain ⟨c, e1, _⟩ := hcap; exact ⟨c, e1⟩
          | dead => exact absurd hcap.1 (by omega)
        obtain ⟨fs, cs, rfl, q3, q4⟩ := q2
        have q3' : fs = [] := q3
        have q4' : cs = [] := q4
        subst q3'; subst q4'
        obtain ⟨c, flo, fhi, o1, o2, o3, o4⟩ := hh.rel b _ i r1 him
        have hsz : ds.length * w ≤ i.size := by
          have hl := rowL_len hA ds
          rcases r3 with rfl | rfl
          · obtain ⟨a1, a2, _⟩ := o4; rw [a2, List.length_append, hl]; omega
          · obtain ⟨a1, _⟩ := o4; rw [List.length_append, hl] at a1; omega
        have hfr : ∀ j, j < ds.length * w → W.frozen? ⟨i.blk, i.base + j, none⟩ = false := fun j hj => by
          simp only [World.frozen?, o1]
          rcases r3 with rfl | rfl
          · obtain ⟨a1, a2, a3, a4⟩ := o4
            subst a3; subst a4; simp
          · obtain ⟨a1, a2⟩ := o4
            cases h1 : decide (flo ≤ i.base + j) with
            | false => rfl
            | true =>
              cases h2 : decide (i.base + j < fhi) with
              | false => rfl
              | true =>
                have := a2 j (by omega) (of_decide_eq_true h1) (of_decide_eq_true h2)
                omega
        have hcell : ∀ j, j < ds.length * w → c[i.base + j]? = some (flatK encV w ds.toArray)[j]! := fun j hj => by
          have hjw : j / w < ds.length := Nat.div_lt_of_lt_mul (by rw [Nat.mul_comm]; exact hj)
          have hm : j % w < w := Nat.mod_lt _ hw0
          have ea : (rowL encA ds ++ rest)[j]? = (encA ds[j / w])[j % w]? := by
            rw [List.getElem?_append_left (by rw [rowL_len hA]; exact hj)]
            show (ds.flatMap encA)[j]? = _
            rw [flat_get hA, if_pos hj, List.getElem?_eq_getElem hjw]; rfl
          have hlen : j % w < (encA ds[j / w]).length := by rw [hA]; exact hm
          rw [List.getElem?_eq_getElem hlen] at ea
          obtain ⟨u, hu, hr⟩ := o2 j _ ea
          have := hr1 μ _ _ _ u (List.getElem?_eq_getElem hlen) hr
          rw [hu, get_flatK _ _ _ _ (by simpa using hj)]
          congr 1
          have e2 : ds.toArray[j / w]! = ds[j / w] := by rw [getElem!_pos _ _ (by simpa using hjw)]; simp
          rw [e2, List.getElem!_eq_getElem?_getD, this]; rfl
        have hH : HoldsK encV w W i.blk i.base ds.toArray := fun j hj => by
          rw [size_flatK] at hj
          have hj' : j < ds.length * w := by simpa using hj
          refine ⟨?_, hfr j hj'⟩
          simp only [World.cell?, o1]
          exact hcell j hj'
        have hblk := (hh.lt b i him).2
        have hGsz : P.globals.size ≤ W.heap.size := by
          cases hsz : P.globals.size with
          | zero => exact Nat.zero_le _
          | succ gg =>
            obtain ⟨i', e1, e2, e3⟩ := hG gg (by omega)
            have := (hh.lt _ i' e1).2
            omega
        obtain ⟨_, hnumg⟩ := hf.code g' fng cg hg hgb
        have eg : ∀ args w, (callFunc g' args).run P w = .ok (.enter g' args) w := fun args w => callFunc_enter hg hgb hnumg args w
        have hcm : CmpLays P g' #[] encV w cf i.blk i.base ds.toArray.size W := fun m os dk _ x y => by
          obtain ⟨n, H', hrun⟩ := hcmp x y
          have hge : P.globals.size ≤ (sortWorldK encV w W i.blk i.base m dk os).heap.size := by
            have : (sortWorldK encV w W i.blk i.base m dk os).heap.size = W.heap.size + os.size := by
              simp [sortWorldK, putRowK, putRow, mapBlock, Go.Sort.ahead]
            omega
          obtain ⟨s1, s2, s3⟩ := start_rel (P := P) hge
          have hvr : ∀ z, VRels (muG P.globals.size) (encA z) (encV z) := fun z => VRels.of_get (by rw [hA, hV]) fun j a ha => by
            have hj : j < (encV z).length := by rw [hV, ← hA z]; exact (List.getElem?_eq_some_iff.1 ha).1
            exact ⟨_, List.getElem?_eq_getElem hj, hr2 _ z j a _ ha (List.getElem?_eq_getElem hj)⟩
          refine (calls_of_run hf hi hg hgb hrun s1 s2 (vs := [.agg ⟨encV x⟩, .agg ⟨encV y⟩]) ⟨_, _, rfl, ⟨_, rfl, hvr x⟩, _, _, rfl, ⟨_, rfl, hvr y⟩, rfl⟩).mono fun e W' ⟨μ', u, e1, e2, e3, e4⟩ => ?_
          have e2' : u = .int .i64 (cf x y) := e2
          subst e2'
          refine ⟨e1, grown_of e4.size (fun r hr => e4.old r hr fun b i hl => absurd rfl hl) e4.os e4.out e4.tape e4.drawn⟩
        have key := AnyQ.slices_SortFunc_total L w aE zE encV hV h1 cf hO g' #[] i.blk i.base cp ds.toArray W eg hcm hH hblk (by simpa [r2] using hlt) hT
        have hent : ∀ args w, (callFunc (ρ.f 6) args).run P w = .ok (.enter (ρ.f 6) args) w := L.f6.enters rfl
        refine .inr ⟨hent _ _, ?_⟩
        have hsize : ds.toArray.size = len := by simpa using r2
        rw [hsize] at key
        refine key.mono fun e W' ⟨he, n, os, hw'⟩ => ?_
        obtain ⟨d', hd'⟩ : ∃ d', d' = (ds.mergeSort fun x y => !(ltOf cf) y x) := ⟨_, rfl⟩
        have hdl : d'.length = ds.length := by rw [hd', List.length_mergeSort]
        have hw2 : W' = Go.Sort.grow (putRowK encV w (Go.Sort.ahead W n) i.blk i.base d'.toArray) os := by rw [hw', hd']; rfl
        have hl1 := rowL_len hA ds
        have hl2 := rowL_len hA d'
        obtain ⟨u1, u2⟩ := hh.update (w' := putRowK encV w (Go.Sort.ahead W n) i.blk i.base d'.toArray) (o' := .cells (rowL encA d' ++ rest) el k 0 0) r1 (by rcases r3 with rfl | rfl <;> rfl) him
          (by simp [putRowK, putRow, mapBlock, Go.Sort.ahead]) (fun r hr => by
            simp only [putRowK, putRow, mapBlock, Go.Sort.ahead, Array.getElem?_modify]
            rw [if_neg (fun e => hr e.symm)]) rfl rfl rfl
          ⟨Go.Sort.putCells id i.base (flatK encV w d'.toArray) c, flo, fhi, by
            simp only [putRowK, putRow, mapBlock, Go.Sort.ahead, Array.getElem?_modify, if_true, o1, Option.map_some, onCells], fun j a hj => by
              simp only [Go.Sort.putCells, Array.getElem?_mapIdx, size_flatK, List.size_toArray]
              by_cases hjl : j < d'.length * w
              · have hjw : j / w < d'.length := Nat.div_lt_of_lt_mul (by rw [Nat.mul_comm]; exact hjl)
                have hm : j % w < w := Nat.mod_lt _ hw0
                have ea : (rowL encA d' ++ rest)[j]? = (encA d'[j / w])[j % w]? := by
                  rw [List.getElem?_append_left (by rw [hl2]; exact hjl)]
                  show (d'.flatMap encA)[j]? = _
                  rw [flat_get hA, if_pos hjl, List.getElem?_eq_getElem hjw]; rfl
                rw [ea] at hj
                have hlenV : j % w < (encV d'[j / w]).length := by rw [hV]; exact hm
                rw [hcell j (by rw [← hdl]; exact hjl)]
                refine ⟨(encV d'[j / w])[j % w], ?_, hr2 μ _ _ _ _ hj (List.getElem?_eq_getElem hlenV)⟩
                simp only [Option.map_some]
                rw [if_pos ⟨by omega, by omega⟩, Nat.add_sub_cancel_left, get_flatK _ _ _ _ (by simpa using hjl)]
                have e2 : d'.toArray[j / w]! = d'[j / w] := by rw [getElem!_pos _ _ (by simpa using hjw)]; simp
                rw [e2, getElem!_pos (encV d'[j / w]) (j % w) hlenV]; rfl
              · have ea : (rowL encA d' ++ rest)[j]? = (rowL encA ds ++ rest)[j]? := by
                  rw [List.getElem?_append_right (by omega), List.getElem?_append_right (by rw [hl1, ← hdl]; omega), hl1, hl2, hdl]
                rw [ea] at hj
                obtain ⟨u, hu, hr⟩ := o2 j a hj
                refine ⟨u, ?_, hr⟩
                rw [hu]
                simp only [Option.map_some]
                rw [if_neg (by omega)], by simp [Go.Sort.putCells, o3], by
            rcases r3 with rfl | rfl
            · obtain ⟨a1, a2, a3, a4⟩ := o4
              exact ⟨a1, by rw [a2, List.length_append, List.length_append, hl1, hl2, hdl], a3, a4⟩
            · obtain ⟨a1, a2⟩ := o4
              exact ⟨by rw [List.length_append, hl2, hdl]; rw [List.length_append, hl1] at a1; exact a1, a2⟩⟩
          (hdr := Nat.le_add_right _ _)
        obtain ⟨t1, t2⟩ := u1.grow os
        rw [hw2]
        exact ⟨μ, .tuple #[], he, ⟨[], rfl, rfl⟩, by rw [← hd']; exact t1, by rw [← hd']; exact u2.trans hh u1 t2⟩
      · cases hx
    · cases hx

/-- slices.SortFunc of no element. -/
def sort0I (fS : Nat) (f : Nat) (args : List AV) (H : AHeap) : Option (AV × AHeap) := match Nat.beq f fS with
  | false => none
  | true => match args with
    | [.nilS, _] => some (.tup [], H)
    | [.slice _ _ 0 _, _] => some (.tup [], H)
    | _ => none
theorem sort0I_ok {P : Program} {ρ : Ren} (L : SlLaysF0.n6 P ρ) : IntrOK P (sort0I (ρ.f 6)) := by
  intro f args H v H' hx μ W vs hh hG hv
  unfold sort0I at hx
  cases hb : Nat.beq f (ρ.f 6) with
  | false => rw [hb] at hx; cases hx
  | true =>
    rw [hb] at hx
    have hfe : f = ρ.f 6 := Nat.eq_of_beq_eq_true hb
    subst hfe
    have hent : ∀ args w, (callFunc (ρ.f 6) args).run P w = .ok (.enter (ρ.f 6) args) w := L.f6.enters rfl
    have fin : ∀ {p : Option Addr} {cp : Nat} {fv : Value}, vs = [.slice p 0 cp, fv] → v = .tup [] → H' = H → FnGoes P (ρ.f 6) vs W (Ends μ H W (.ret v H')) := fun {p cp fv} e1 e2 e3 => by
      subst e1; subst e2; subst e3
      refine .inr ⟨hent _ _, (AnyF.slices_SortFunc_none L p cp fv W).mono fun e W' ⟨he, hw⟩ => ?_⟩
      subst hw
      exact ⟨μ, .tuple #[], he, ⟨[], rfl, rfl⟩, hh, Adv.refl μ H' W'⟩
    simp only at hx
    split at hx
    · cases hx
      obtain ⟨v1, vs1, rfl, q1, v2, vs2, rfl, q2, rfl⟩ := hv
      have : v1 = .slice none 0 0 := q1
      subst this
      exact fin rfl rfl rfl
    · rename_i b off c y
      cases hx
      obtain ⟨v1, vs1, rfl, ⟨i, _, q1⟩, v2, vs2, rfl, q2, rfl⟩ := hv
      cases c with
      | exact c => have : v1 = _ := q1; subst this; exact fin rfl rfl rfl
      | opn e => obtain ⟨c, e1, _⟩ := q1; subst e1; exact fin rfl rfl rfl
      | dead => obtain ⟨_, a, c, e1⟩ := q1; subst e1; exact fin rfl rfl rfl
    · cases hx
/-- What the one knows, or the other. -/
def orI (i j : Nat → List AV → AHeap → Option (AV × AHeap)) (f : Nat) (args : List AV) (H : AHeap) : Option (AV × AHeap) := match i f args H with
  | some x => some x
  | none => j f args H
theorem orI_ok {P : Program} {i j : Nat → List AV → AHeap → Option (AV × AHeap)} (hi : IntrOK P i) (hj : IntrOK P j) : IntrOK P (orI i j) := by
  intro f args H v H' hx
  unfold orI at hx
  split at hx
  · rename_i x hx'
    cases hx
    exact hi f args H v H' hx'
  · exact hj f args H v H' hx
end
end AEv

namespace AEv
open Go

/-- Facts of a type of rows. -/
structure RowTy {D : Type} (P : Program) (enc : D → List AV) (w : Nat) (el sT : TypeId) : Prop where
  hu : P.underlying sT = some (.slice el)
  hsrc : srcOK P (some sT) = true
  info : ∃ i, P.info? el = some i ∧ i.size = w ∧ i.bytes ≤ 1000
  zero : ∃ z, zeroT P el = some z ∧ z.cells.length = w
  size : sizeT P el = some w
  len : ∀ d, (enc d).length = w
  cell : ∀ d, (enc d).all AV.isCell = true
  pos : 0 < w

section
variable {D : Type} {P : Program} {enc : D → List AV} {w : Nat} {el sT : TypeId}
/-- A row of one's own, all of its block. -/
def OutG (enc : D → List AV) (w : Nat) (el : TypeId) (B : Nat) (h : AHeap) (v : AV) (ds : List D) : Prop :=
  (v = .nilS ∧ ds = []) ∨ ∃ p, v = .slice p 0 ds.length (.opn w) ∧ 0 < ds.length ∧ h.get p = some (.cells (rowL enc ds) el .opn 0 0) ∧ B ≤ p ∧ p < h.n
theorem OutG.mono {B B' : Nat} {h h' : AHeap} {v : AV} {ds : List D} (ho : OutG enc w el B h v ds) (e : Ext B' h h') (hB : h.n ≤ B') : OutG enc w el B h' v ds := by
  rcases ho with ho | ⟨p, h1, h2, h3, h4, h5⟩
  · exact .inl ho
  · exact .inr ⟨p, h1, h2, (e.get p (by omega)).trans h3, h4, Nat.lt_of_lt_of_le h5 e.n⟩
theorem appG_none (T : RowTy P enc w el sT) {h : AHeap} {src : AV} (hs : srcCells h w src = some (0, [])) : appendA P h sT (some sT) .nilS src = some (.nilS, h) := by
  obtain ⟨i, hi, hsz, _⟩ := T.info
  obtain ⟨z, hz, _⟩ := T.zero
  simp only [appendA, T.hu, T.hsrc, hi, hz, hsz, hs]
theorem appG_new (T : RowTy P enc w el sT) {h : AHeap} {src : AV} {es : List D} (hs : srcCells h w src = some (es.length, rowL enc es)) (h0 : 0 < es.length) (hl : es.length ≤ 1000000) : appendA P h sT (some sT) .nilS src = some (.slice h.n 0 es.length (.opn w), h.push (.cells (rowL enc es) el .opn 0 0)) := by
  obtain ⟨i, hi, hsz, hby⟩ := T.info
  obtain ⟨z, hz, hzc⟩ := T.zero
  obtain ⟨k, hk⟩ : ∃ k, es.length = k + 1 := ⟨es.length - 1, by omega⟩
  have hro : roomOK (k + 1) i.bytes = true := by
    unfold roomOK
    have h1 : (4 * (k + 1) + 2048) * (i.bytes + 1) ≤ 5000000 * 1001 := Nat.mul_le_mul (by omega) (by omega)
    simp; omega
  have hgr : growA h el i.bytes w (k + 1) z (rowL enc es) 0 = some (.slice h.n 0 (k + 1) (.opn w), h.push (.cells (rowL enc es) el .opn 0 0)) :=
    growA_ok hro (by rw [hzc]; simp) (row_cells T.cell es)
  rw [hk] at hs ⊢
  simp only [appendA, T.hu, T.hsrc, hi, hz, hsz, hs, hgr]
theorem appG_more (T : RowTy P enc w el sT) {h : AHeap} {src : AV} {p : Nat} {ds es : List D} (hg : h.get p = some (.cells (rowL enc ds) el .opn 0 0)) (hs : srcCells h w src = some (es.length, rowL enc es)) (h0 : 0 < es.length) (hl : ds.length + es.length ≤ 1000000) :
    appendA P h sT (some sT) (.slice p 0 ds.length (.opn w)) src = some (.slice h.n 0 (ds.length + es.length) (.opn w), (h.set p none).push (.cells (rowL enc (ds ++ es)) el .opn 0 0)) := by
  obtain ⟨i, hi, hsz, hby⟩ := T.info
  obtain ⟨z, hz, hzc⟩ := T.zero
  obtain ⟨k, hk⟩ : ∃ k, es.length = k + 1 := ⟨es.length - 1, by omega⟩
  have hro : roomOK (ds.length + (k + 1)) i.bytes = true := by
    unfold roomOK
    have h1 : (4 * (ds.length + (k + 1)) + 2048) * (i.bytes + 1) ≤ 5000000 * 1001 := Nat.mul_le_mul (by omega) (by omega)
    simp; omega
  have hgr : growA (h.set p none) el i.bytes w (ds.length + (k + 1)) z (rowL enc ds ++ rowL enc es) (0 - 0) = some (.slice (h.set p none).n 0 (ds.length + (k + 1)) (.opn w), (h.set p none).push (.cells (rowL enc ds ++ rowL enc es) el .opn 0 0)) :=
    growA_ok hro (by rw [hzc]; simp) (by rw [List.all_append, row_cells T.cell, row_cells T.cell]; rfl)
  have hb1 : (Nat.beq w w && Nat.blt 0 w) = true := by
    have := T.pos
    simp [Nat.blt_eq]; omega
  have hlen := rowL_len T.len ds
  have hble : Nat.ble (0 + (ds.length + (k + 1)) * w) (rowL enc ds).length = false := by
    cases hx : Nat.ble (0 + (ds.length + (k + 1)) * w) (rowL enc ds).length with
    | false => rfl
    | true =>
      have := Nat.le_of_ble_eq_true hx
      rw [hlen, Nat.add_mul, Nat.add_mul] at this
      have := T.pos
      omega
  have hcond : (Nat.ble 0 (0 + ds.length * w) && Nat.beq el el) = true := by simp
  have hld : AEv.loadCells h p 0 (ds.length * w) = some (rowL enc ds) := by
    have := load_row (h := h) (xs := rowL enc ds) (rest := []) (by rw [List.append_nil]; exact hg)
    rwa [hlen] at this
  rw [hk] at hs ⊢
  rw [rowL_app]
  simp only [appendA, T.hu, T.hsrc, hi, hz, hsz, hs, hb1, hg, hble, hcond, hld, hgr]
  rfl
/-- Appending: what comes, and what stays. -/
theorem appG (T : RowTy P enc w el sT) {B : Nat} {h : AHeap} {v src : AV} {ds es : List D} (ho : OutG enc w el B h v ds) (hB : B ≤ h.n) (hs : srcCells h w src = some (es.length, rowL enc es)) (hl : ds.length + es.length ≤ 1000000) :
    ∃ v' h', appendA P h sT (some sT) v src = some (v', h') ∧ OutG enc w el B h' v' (ds ++ es) ∧ Ext B h h' ∧ h.n ≤ h'.n ∧ ∀ c, c < h.n → (∀ n cp, v ≠ .slice c 0 n cp) → h'.get c = h.get c := by
  by_cases h0 : es.length = 0
  · have he : es = [] := List.eq_nil_of_length_eq_zero h0
    subst he
    refine ⟨v, h, ?_, by rw [List.append_nil]; exact ho, Ext.refl _ _, Nat.le_refl _, fun _ _ _ => rfl⟩
    rcases ho with ⟨rfl, _⟩ | ⟨p, rfl, h2, h3, h4, h5⟩
    · exact appG_none T hs
    · obtain ⟨i, hi, hsz, hby⟩ := T.info
      obtain ⟨z, hz, hzc⟩ := T.zero
      have hb1 : (Nat.beq w w && Nat.blt 0 w) = true := by
        have := T.pos
        simp [Nat.blt_eq]; omega
      have hs' : srcCells h w src = some (0, rowL enc []) := hs
      simp only [appendA, T.hu, T.hsrc, hi, hz, hsz, hs', hb1]
  · rcases ho with ⟨rfl, rfl⟩ | ⟨p, rfl, h2, h3, h4, h5⟩
    · rw [List.nil_append]
      exact ⟨_, _, appG_new T hs (by omega) (by simp at hl; omega), .inr ⟨h.n, rfl, by omega, gtop rfl, hB, by simp⟩, Ext.pushR hB (Ext.refl _ _), by simp, fun c hc _ => gold hc rfl⟩
    · refine ⟨_, _, appG_more T h3 hs (by omega) hl, .inr ⟨h.n, by rw [List.length_append], by rw [List.length_append]; omega, by exact gtop (by simp), hB, by simp⟩, ?_, by simp, fun c hc hw => ?_⟩
      · exact Ext.pushR (by simp; omega) (Ext.setR h4 (Ext.refl _ _))
      · exact gold (by simpa using hc) (gother (fun e => hw _ _ (by rw [e])) rfl)
/-- One element, laid for appending. -/
theorem oneG (T : RowTy P enc w el sT) (g : AHeap) (t : TypeId) (d : D) : srcCells (g.push (.cells (enc d) t .own 0 0)) w (.slice g.n 0 1 (.exact 1)) = some ([d].length, rowL enc [d]) := by
  have e : takeN (1 * w) (dropN 0 (enc d)) = some (enc d) := by
    rw [Nat.one_mul]
    have := takeN_app' (enc d) [] w (T.len d)
    rw [List.append_nil] at this
    exact this
  have : AEv.loadCells (g.push (.cells (enc d) t .own 0 0)) g.n 0 (1 * w) = some (enc d) := ldc (gtop rfl) e
  simp only [srcCells, this]
  simp [rowL]
end
end AEv
