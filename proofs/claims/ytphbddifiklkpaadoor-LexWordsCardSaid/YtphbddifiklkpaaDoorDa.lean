/-
  PROVED HERE: contracts of functions (Da). No condition beside each statement's own.
-/
import Derived.Test.YtphbddifiklkpaaDoorAed
import Derived.OpenShut
set_option linter.unusedVariables false
set_option linter.unusedSimpArgs false
namespace AEv
open Go Go.RowKit

/-- A table of bytes: the variable's number, the bytes. -/
structure Tab where
  g : Nat
  xs : List Nat
def u8s : List Nat → List AV
  | [] => []
  | x :: l => .int .u8 (Int.ofNat x) :: u8s l
def Tab.obj (els : Nat → Nat) (t : Tab) : AObj := .cells (u8s t.xs) (els t.g) .ro 0 0
def eqU8 : List AV → List Nat → Bool
  | [], [] => true
  | .int .u8 (.ofNat n) :: l, x :: xs => match Nat.beq n x with
    | true => eqU8 l xs
    | false => false
  | _, _ => false
theorem eqU8_eq : ∀ (l : List AV) (xs : List Nat), eqU8 l xs = true → l = u8s xs
  | [], [], _ => rfl
  | .int .u8 (.ofNat n) :: l, x :: xs, h => by
    simp only [eqU8] at h
    split at h
    · rename_i hn
      rw [eqU8_eq l xs h, Nat.eq_of_beq_eq_true hn]; rfl
    · cases h
theorem eqU8_self : ∀ xs : List Nat, eqU8 (u8s xs) xs = true
  | [] => rfl
  | x :: xs => by
    show (match Nat.beq x x with | true => eqU8 (u8s xs) xs | false => false) = true
    rw [show Nat.beq x x = true from Nat.beq_refl x]
    exact eqU8_self xs
def isTab (h : AHeap) (t : Tab) : Bool := match h.get t.g with
  | some (.cells cs _ .ro 0 0) => eqU8 cs t.xs
  | _ => false
def tabsIn (h : AHeap) : List Tab → Bool
  | [] => true
  | t :: ts => match isTab h t with
    | true => tabsIn h ts
    | false => false
theorem isTab_get {h : AHeap} {t : Tab} (hi : isTab h t = true) : ∃ el, h.get t.g = some (.cells (u8s t.xs) el .ro 0 0) := by
  unfold isTab at hi
  split at hi
  · rename_i cs el hg
    exact ⟨el, by rw [hg, eqU8_eq _ _ hi]⟩
  · cases hi
theorem isTab_of {h : AHeap} {t : Tab} {el : Nat} (hg : h.get t.g = some (.cells (u8s t.xs) el .ro 0 0)) : isTab h t = true := by
  unfold isTab
  rw [hg]
  exact eqU8_self _
theorem tabsIn_mem : ∀ {ts : List Tab} {h : AHeap}, tabsIn h ts = true → ∀ t ∈ ts, isTab h t = true
  | [], h, _, t, ht => by cases ht
  | x :: ts, h, hi, t, ht => by
    simp only [tabsIn] at hi
    split at hi
    · rename_i h1
      rcases List.mem_cons.1 ht with rfl | ht
      · exact h1
      · exact tabsIn_mem hi t ht
    · cases hi
theorem tabsIn_of : ∀ {ts : List Tab} {h : AHeap}, (∀ t ∈ ts, isTab h t = true) → tabsIn h ts = true
  | [], h, _ => rfl
  | x :: ts, h, hi => by
    simp only [tabsIn, hi x (by simp)]
    exact tabsIn_of fun t ht => hi t (by simp [ht])

def setRo (els : Nat → Nat) (h : AHeap) (t : Tab) : AHeap := h.set t.g (some (t.obj els))
def heapT (G : Nat) (els : Nat → Nat) (ts : List Tab) (rows : List (List AV × Nat)) : AHeap := rows.foldl pushRo (ts.foldl (setRo els) (emptyHeap G))
def muT (G : Nat) (sz : Nat → Nat) (is : List Img) : Mu := fun b => if b < G then some ⟨b, 0, sz b⟩ else is[b - G]?
theorem foldSet (els : Nat → Nat) : ∀ (ts : List Tab) (h : AHeap), (ts.foldl (setRo els) h).n = h.n ∧ ∀ b, (ts.foldl (setRo els) h).get b = h.get b ∨ ∃ t ∈ ts, t.g = b ∧ (ts.foldl (setRo els) h).get b = some (t.obj els)
  | [], h => ⟨rfl, fun b => .inl rfl⟩
  | t :: ts, h => by
    obtain ⟨q1, q2⟩ := foldSet els ts (setRo els h t)
    have hg : ∀ b, (setRo els h t).get b = if b = t.g then some (t.obj els) else h.get b := fun b => AHeap.get_set _ _ _ _
    refine ⟨q1, fun b => ?_⟩
    rw [List.foldl_cons]
    rcases q2 b with q | ⟨t', h1, h2, h3⟩
    · rw [q, hg]
      by_cases e : b = t.g
      · rw [if_pos e]; exact .inr ⟨t, by simp, e.symm, rfl⟩
      · rw [if_neg e]; exact .inl rfl
    · exact .inr ⟨t', by simp [h1], h2, h3⟩
theorem foldSet_at (els : Nat → Nat) : ∀ (ts : List Tab) (h : AHeap), (ts.map (·.g)).Nodup → ∀ t ∈ ts, (ts.foldl (setRo els) h).get t.g = some (t.obj els)
  | [], h, _, t, ht => by cases ht
  | x :: ts, h, hn, t, ht => by
    rw [List.map_cons, List.nodup_cons] at hn
    rw [List.foldl_cons]
    rcases List.mem_cons.1 ht with rfl | ht
    · rcases (foldSet els ts (setRo els h t)).2 t.g with q | ⟨t', h1, h2, h3⟩
      · rw [q]
        show (h.set t.g _).get t.g = _
        rw [AHeap.get_set, if_pos rfl]
      · exact absurd (List.mem_map.2 ⟨t', h1, h2⟩) hn.1
    · exact foldSet_at els ts _ hn.2 t ht
theorem heapT_n (G : Nat) (els : Nat → Nat) (ts : List Tab) (rows : List (List AV × Nat)) (hts : ∀ t ∈ ts, t.g < G) : (heapT G els ts rows).n = G + rows.length ∧ ∀ b, (heapT G els ts rows).get b = if b < G then (ts.foldl (setRo els) (emptyHeap G)).get b else (rows[b - G]?).map fun r => .cells r.1 r.2 .ro 0 0 := by
  obtain ⟨q1, q2⟩ := foldSet els ts (emptyHeap G)
  have hn : (ts.foldl (setRo els) (emptyHeap G)).n = G := q1
  obtain ⟨r1, r2⟩ := foldRo rows (ts.foldl (setRo els) (emptyHeap G)) fun b hb => by
    rw [hn] at hb
    rcases q2 b with q | ⟨t, h1, h2, _⟩
    · rw [q]; rfl
    · have := hts t h1; omega
  rw [hn] at r1 r2
  exact ⟨r1, r2⟩
theorem heapT_tab {G : Nat} {els : Nat → Nat} {ts : List Tab} {rows : List (List AV × Nat)} (hts : ∀ t ∈ ts, t.g < G) (hn : (ts.map (·.g)).Nodup) {t : Tab} (ht : t ∈ ts) : (heapT G els ts rows).get t.g = some (t.obj els) := by
  rw [(heapT_n G els ts rows hts).2, if_pos (hts t ht)]
  exact foldSet_at els ts _ hn t ht
theorem heapT_in {G : Nat} {els : Nat → Nat} {ts : List Tab} {rows : List (List AV × Nat)} (hts : ∀ t ∈ ts, t.g < G) (hn : (ts.map (·.g)).Nodup) : tabsIn (heapT G els ts rows) ts = true :=
  tabsIn_of fun t ht => isTab_of (heapT_tab hts hn ht)
/-- A table lies in the world. -/
def TabAt (W : World) (els : Nat → Nat) (t : Tab) : Prop := ∃ c fz, W.heap[t.g]? = some (.cells c (els t.g) fz) ∧ ∀ (j : Nat) (x : Nat), t.xs[j]? = some x → c[j]? = some (.int .u8 (Int.ofNat x))
theorem u8s_get : ∀ (xs : List Nat) (j : Nat), (u8s xs)[j]? = (xs[j]?).map fun x => .int .u8 (Int.ofNat x)
  | [], j => by simp [u8s]
  | x :: xs, 0 => by simp [u8s]
  | x :: xs, j + 1 => by simp [u8s, u8s_get xs j]
def szW (W : World) (g : Nat) : Nat := match W.heap[g]? with
  | some (.cells c _ _) => c.size
  | _ => 0
theorem start_tabs {P : Program} {W : World} (hW : P.globals.size ≤ W.heap.size) (els : Nat → Nat) (ts : List Tab) (hts : ∀ t ∈ ts, t.g < P.globals.size ∧ TabAt W els t) (l : List (Img × List AV × Nat)) (hl : ∀ x ∈ l, RowW W x.1 x.2.1 x.2.2) :
    HRel (muT P.globals.size (szW W) (l.map (·.1))) (heapT P.globals.size els ts (l.map (·.2))) W ∧ GRel P (muT P.globals.size (szW W) (l.map (·.1))) ∧ Roed (heapT P.globals.size els ts (l.map (·.2))) := by
  obtain ⟨hn, hg⟩ := heapT_n P.globals.size els ts (l.map (·.2)) fun t ht => (hts t ht).1
  have ro : ∀ b o, (heapT P.globals.size els ts (l.map (·.2))).get b = some o → (∃ x, l[b - P.globals.size]? = some x ∧ ¬ b < P.globals.size ∧ o = .cells x.2.1 x.2.2 .ro 0 0) ∨ (b < P.globals.size ∧ ∃ t ∈ ts, t.g = b ∧ o = t.obj els) := by
    intro b o h
    rw [hg] at h
    split at h
    · rename_i hb
      rcases (foldSet els ts (emptyHeap P.globals.size)).2 b with q | ⟨t, h1, h2, h3⟩
      · rw [q] at h; cases h
      · rw [h3] at h; cases h; exact .inr ⟨hb, t, h1, h2, rfl⟩
    · rename_i hb
      rw [List.getElem?_map] at h
      cases hx : l[b - P.globals.size]? with
      | none => rw [hx] at h; cases h
      | some x => rw [hx] at h; cases h; exact .inl ⟨x, rfl, hb, rfl⟩
  refine ⟨⟨fun b o j h hj => ?_, fun b c' j k h1 h2 => ?_, fun b j h => ?_, fun b h => ?_⟩, fun g hg => ⟨⟨g, 0, szW W g⟩, by simp [muT, hg], rfl, rfl⟩, fun b o h => ?_⟩
  · rcases ro b o h with ⟨x, hx, hb, rfl⟩ | ⟨hb, t, ht, rfl, rfl⟩
    · unfold muT at hj
      rw [if_neg hb, List.getElem?_map, hx] at hj
      cases hj
      obtain ⟨c, fz, q1, q2, q3⟩ := hl x (List.mem_of_getElem? hx)
      exact ⟨c, fz.1, fz.2, q1, q2 _, q3, trivial⟩
    · unfold muT at hj
      rw [if_pos hb] at hj
      cases hj
      obtain ⟨_, c, fz, q1, q2⟩ := hts t ht
      refine ⟨c, fz.1, fz.2, q1, fun j v hv => ?_, by show 0 + szW W t.g = c.size; unfold szW; rw [q1]; simp, trivial⟩
      rw [u8s_get] at hv
      cases hx : t.xs[j]? with
      | none => rw [hx] at hv; cases hv
      | some x =>
        rw [hx] at hv; cases hv
        exact ⟨_, by rw [Nat.zero_add]; exact q2 j x hx, rfl⟩
  · obtain ⟨o, h2, h3⟩ := h2
    rcases ro _ o h2 with ⟨x, _, _, rfl⟩ | ⟨_, t, _, _, rfl⟩ <;> cases h3
  · rw [hn, List.length_map]
    unfold muT at h
    split at h
    · rename_i hb; cases h; exact ⟨by omega, Nat.lt_of_lt_of_le hb hW⟩
    · rw [List.getElem?_map] at h
      cases hx : l[b - P.globals.size]? with
      | none => rw [hx] at h; cases h
      | some x =>
        rw [hx] at h; cases h
        obtain ⟨c, fz, q1, _⟩ := hl x (List.mem_of_getElem? hx)
        have := (List.getElem?_eq_some_iff.1 hx).1
        exact ⟨by omega, (Array.getElem?_eq_some_iff.1 q1).1⟩
  · rw [hn, List.length_map] at h
    rw [hg, if_neg (by omega), List.getElem?_map, List.getElem?_eq_none (by omega)]; rfl
  · rcases ro b o h with ⟨x, _, _, rfl⟩ | ⟨_, t, _, _, rfl⟩ <;> rfl

/-! ### Calls told from a table, where tables lie -/
def tabIntrT (ts : List Tab) (T : List Ent) (f : Nat) (args : List AV) (h : AHeap) : Option (AV × AHeap) :=
  match tabIntr T f args h with
  | some r => match tabsIn h ts with
    | true => some r
    | false => none
  | none => none
def entT (P : Program) (els : Nat → Nat) (ts : List Tab) (intr : Nat → List AV → AHeap → Option (AV × AHeap)) (n : Nat) (e : Ent) : Bool :=
  match callN P intr n (.fn e.f) e.args (heapT P.globals.size els ts []) with
  | .ret v _ => AV.beq v e.v && refFree e.v && refFrees e.args
  | _ => false
def EntT (P : Program) (ts : List Tab) (e : Ent) : Prop := ∃ (intr : Nat → List AV → AHeap → Option (AV × AHeap)) (n : Nat), IntrOK P intr ∧ ∀ els, entT P els ts intr n e = true
section
variable {P : Program}
theorem tabT_ok (hf : Fit P) {ts : List Tab} (hts : ∀ t ∈ ts, t.g < P.globals.size) {T : List Ent} (hT : ∀ e ∈ T, EntT P ts e) : IntrOK P (tabIntrT ts T) := by
  intro f args H v H' hx μ w vs hh hg hv
  unfold tabIntrT at hx
  split at hx
  · rename_i r hr
    split at hx
    · rename_i hin
      cases hx
      obtain ⟨rfl, e, he, rfl, rfl, rfl⟩ := tab_mem T f args H v H' hr
      obtain ⟨intr, n, hi, hb0⟩ := hT e he
      obtain ⟨els, hels⟩ : ∃ els : Nat → Nat, ∀ g, els g = match w.heap[g]? with | some (.cells _ el _) => el | _ => 0 := ⟨_, fun _ => rfl⟩
      have hb := hb0 els
      unfold entT at hb
      split at hb
      · rename_i v1 H1 hrun
        simp only [Bool.and_eq_true] at hb
        obtain ⟨⟨hb1, hb2⟩, hb3⟩ := hb
        have hv1 := beq_eq _ _ hb1
        subst hv1
        have hG : P.globals.size ≤ w.heap.size := by
          cases hsz : P.globals.size with
          | zero => exact Nat.zero_le _
          | succ g =>
            obtain ⟨i, h1, h2, h3⟩ := hg g (by omega)
            have := (hh.lt _ i h1).2
            omega
        have hta : ∀ t ∈ ts, t.g < P.globals.size ∧ TabAt w els t := fun t ht => by
          refine ⟨hts t ht, ?_⟩
          obtain ⟨el, hget⟩ := isTab_get (tabsIn_mem hin t ht)
          obtain ⟨i, h1, h2, h3⟩ := hg t.g (hts t ht)
          obtain ⟨c, flo, fhi, k1, k2, k3, _⟩ := hh.rel _ _ i hget h1
          rw [h2] at k1
          rw [h3] at k2
          refine ⟨c, (flo, fhi), by rw [hels, k1], fun j x hj => ?_⟩
          obtain ⟨u, hu1, hu2⟩ := k2 j _ (by rw [u8s_get, hj]; rfl)
          rw [Nat.zero_add] at hu1
          rw [hu1, hu2]
        obtain ⟨s1, s2, s3⟩ := start_tabs (P := P) hG els ts hta [] (by simp)
        have hgo := (run_ok hf hi n).fn e.f e.args (heapT P.globals.size els ts []) (by rw [hrun]; rfl) _ w vs s1 s2 (refFrees_rel _ _ hb3 hv)
        rw [hrun] at hgo
        refine hgo.mono fun en w' hen => ?_
        obtain ⟨μ', u, rfl, q1, q2, q3⟩ := hen
        have hold : ∀ r, r < w.heap.size → w'.heap[r]? = w.heap[r]? := (q3.below s3 s1).block
        refine ⟨μ, u, rfl, refFree_rel _ _ hb2 q1, ⟨fun b o i hb hi => (hh.rel b o i hb hi).mono (Le.refl μ) (hold _ (hh.lt b i hi).2), hh.inj, fun b i hi => ⟨(hh.lt b i hi).1, Nat.lt_of_lt_of_le (hh.lt b i hi).2 q3.size⟩, hh.bound⟩, ?_⟩
        exact ⟨Le.refl μ, q3.size, Nat.le_refl _, fun _ _ hl => hl, fun _ _ _ => rfl, fun r hr _ => hold r hr, (fun b i h1 h2 => by rw [h1] at h2; cases h2), fun b o i hb _ hi => ⟨hb, hold _ (hh.lt b i hi).2⟩, q3.os, q3.out, q3.tape, q3.drawn⟩
      · cases hb
    · cases hx
  · cases hx
end
end AEv

namespace AEv
open Go Go.ChangeShapes Go.WideShapes Go.ChangeAt Go.RowKit

/-- The element's type of each variable's row. -/
def elsW (W : World) (g : Nat) : Nat := match W.heap[g]? with
  | some (.cells _ el _) => el
  | _ => 0
theorem tab_laid {P : Program} {W : World} {n : String} {d : DataW Unit} {g t N e fuel : Nat} {cs : Array Value} {p : List MemPlace} (ht : P.underlying t = some (.array N e)) (he : P.underlying e = some (.int .u8)) (hc : P.cellsOf e = 1)
    (hg : P.globalNamed n = some g) (hv : W.var? P n = some cs) (hd : DataW.trod (fun _ => ()) P W 0 (fun _ => true) false fuel t cs.toList = some (d, p)) (xs : List Nat) (hx : d = .agg (xs.map fun x => .lit (.int .u8 (Int.ofNat x)))) :
    TabAt W (elsW W) ⟨g, xs⟩ := by
  unfold World.var? at hv
  rw [hg, Option.bind_some] at hv
  split at hv
  · rename_i cs' el fz hb
    cases hv
    refine ⟨cs, fz, by unfold elsW; rw [hb], fun r x hr => ?_⟩
    obtain ⟨ys, m, _, ex, _, hl, hel⟩ := DataW.trod_array ht hd
    have e3 : (ys.map (·.1)) = xs.map fun x => .lit (.int .u8 (Int.ofNat x)) := by
      have := (Prod.mk.inj ex).1
      rw [hx] at this
      exact (DataW.agg.inj this).symm
    have hlen : ys.length = xs.length := by simpa using congrArg List.length e3
    have hrl : r < xs.length := (List.getElem?_eq_some_iff.1 hr).1
    have hE := hel r (by omega)
    rw [hc, Nat.mul_one, List.getElem?_eq_getElem (by omega)] at hE
    obtain ⟨z, e1, e2, _⟩ := DataW.trod_int he hE
    have e4 : (ys.map (·.1))[r]? = (xs.map fun x => (DataW.lit (.int .u8 (Int.ofNat x)) : DataW Unit))[r]? := by rw [e3]
    rw [List.getElem?_map, List.getElem?_map, List.getElem?_eq_getElem (by omega : r < ys.length), hr, e2] at e4
    have hz : z = Int.ofNat x := by simpa using e4
    subst hz
    have h0 : ((cs.toList.drop r).take 1)[0]? = some (.int .u8 (Int.ofNat x)) := by rw [e1]; rfl
    have h1 : cs.toList[r]? = some (.int .u8 (Int.ofNat x)) := by simpa using h0
    simpa using h1
  · cases hv
end AEv
