/-
  PROVED HERE: contracts of functions (Da). No condition beside each statement's own.
-/
import Derived.Test.YtokgebablggccaaGreatDoorAed
import Derived.OpenShut
import Derived.ChangeSame
import Derived.Lay
set_option linter.unusedVariables false
set_option linter.unusedSimpArgs false
namespace AEv
open Go Go.RowKit

/-- A table of bytes: the variable's number, the bytes. -/
structure Tab where
  g : Nat
  xs : List Nat
def u8s : List Nat → List AV
  | [] => []
  | x :: l => .int .u8 (Int.ofNat x) :: u8s l
def Tab.obj (els : Nat → Nat) (t : Tab) : AObj := .cells (u8s t.xs) (els t.g) .ro 0 0
def eqU8 : List AV → List Nat → Bool
  | [], [] => true
  | .int .u8 (.ofNat n) :: l, x :: xs => match Nat.beq n x with
    | true => eqU8 l xs
    | false => false
  | _, _ => false
theorem eqU8_eq : ∀ (l : List AV) (xs : List Nat), eqU8 l xs = true → l = u8s xs
  | [], [], _ => rfl
  | .int .u8 (.ofNat n) :: l, x :: xs, h => by
    simp only [eqU8] at h
    split at h
    · rename_i hn
      rw [eqU8_eq l xs h, Nat.eq_of_beq_eq_true hn]; rfl
    · cases h
theorem eqU8_self : ∀ xs : List Nat, eqU8 (u8s xs) xs = true
  | [] => rfl
  | x :: xs => by
    show (match Nat.beq x x with | true => eqU8 (u8s xs) xs | false => false) = true
    rw [show Nat.beq x x = true from Nat.beq_refl x]
    exact eqU8_self xs
def isTab (h : AHeap) (t : Tab) : Bool := match h.get t.g with
  | some (.cells cs _ .ro 0 0) => eqU8 cs t.xs
  | _ => false
def tabsIn (h : AHeap) : List Tab → Bool
  | [] => true
  | t :: ts => match isTab h t with
    | true => tabsIn h ts
    | false => false
theorem isTab_get {h : AHeap} {t : Tab} (hi : isTab h t = true) : ∃ el, h.get t.g = some (.cells (u8s t.xs) el .ro 0 0) := by
  unfold isTab at hi
  split at hi
  · rename_i cs el hg
    exact ⟨el, by rw [hg, eqU8_eq _ _ hi]⟩
  · cases hi
theorem isTab_of {h : AHeap} {t : Tab} {el : Nat} (hg : h.get t.g = some (.cells (u8s t.xs) el .ro 0 0)) : isTab h t = true := by
  unfold isTab
  rw [hg]
  exact eqU8_self _
theorem tabsIn_mem : ∀ {ts : List Tab} {h : AHeap}, tabsIn h ts = true → ∀ t ∈ ts, isTab h t = true
  | [], h, _, t, ht => by cases ht
  | x :: ts, h, hi, t, ht => by
    simp only [tabsIn] at hi
    split at hi
    · rename_i h1
      rcases List.mem_cons.1 ht with rfl | ht
      · exact h1
      · exact tabsIn_mem hi t ht
    · cases hi
theorem tabsIn_of : ∀ {ts : List Tab} {h : AHeap}, (∀ t ∈ ts, isTab h t = true) → tabsIn h ts = true
  | [], h, _ => rfl
  | x :: ts, h, hi => by
    simp only [tabsIn, hi x (by simp)]
    exact tabsIn_of fun t ht => hi t (by simp [ht])

def setRo (els : Nat → Nat) (h : AHeap) (t : Tab) : AHeap := h.set t.g (some (t.obj els))
def heapT (G : Nat) (els : Nat → Nat) (ts : List Tab) (rows : List (List AV × Nat)) : AHeap := rows.foldl pushRo (ts.foldl (setRo els) (emptyHeap G))
def muT (G : Nat) (sz : Nat → Nat) (is : List Img) : Mu := fun b => if b < G then some ⟨b, 0, sz b⟩ else is[b - G]?
theorem foldSet (els : Nat → Nat) : ∀ (ts : List Tab) (h : AHeap), (ts.foldl (setRo els) h).n = h.n ∧ ∀ b, (ts.foldl (setRo els) h).get b = h.get b ∨ ∃ t ∈ ts, t.g = b ∧ (ts.foldl (setRo els) h).get b = some (t.obj els)
  | [], h => ⟨rfl, fun b => .inl rfl⟩
  | t :: ts, h => by
    obtain ⟨q1, q2⟩ := foldSet els ts (setRo els h t)
    have hg : ∀ b, (setRo els h t).get b = if b = t.g then some (t.obj els) else h.get b := fun b => AHeap.get_set _ _ _ _
    refine ⟨q1, fun b => ?_⟩
    rw [List.foldl_cons]
    rcases q2 b with q | ⟨t', h1, h2, h3⟩
    · rw [q, hg]
      by_cases e : b = t.g
      · rw [if_pos e]; exact .inr ⟨t, by simp, e.symm, rfl⟩
      · rw [if_neg e]; exact .inl rfl
    · exact .inr ⟨t', by simp [h1], h2, h3⟩
theorem foldSet_at (els : Nat → Nat) : ∀ (ts : List Tab) (h : AHeap), (ts.map (·.g)).Nodup → ∀ t ∈ ts, (ts.foldl (setRo els) h).get t.g = some (t.obj els)
  | [], h, _, t, ht => by cases ht
  | x :: ts, h, hn, t, ht => by
    rw [List.map_cons, List.nodup_cons] at hn
    rw [List.foldl_cons]
    rcases List.mem_cons.1 ht with rfl | ht
    · rcases (foldSet els ts (setRo els h t)).2 t.g with q | ⟨t', h1, h2, h3⟩
      · rw [q]
        show (h.set t.g _).get t.g = _
        rw [AHeap.get_set, if_pos rfl]
      · exact absurd (List.mem_map.2 ⟨t', h1, h2⟩) hn.1
    · exact foldSet_at els ts _ hn.2 t ht
theorem heapT_n (G : Nat) (els : Nat → Nat) (ts : List Tab) (rows : List (List AV × Nat)) (hts : ∀ t ∈ ts, t.g < G) : (heapT G els ts rows).n = G + rows.length ∧ ∀ b, (heapT G els ts rows).get b = if b < G then (ts.foldl (setRo els) (emptyHeap G)).get b else (rows[b - G]?).map fun r => .cells r.1 r.2 .ro 0 0 := by
  obtain ⟨q1, q2⟩ := foldSet els ts (emptyHeap G)
  have hn : (ts.foldl (setRo els) (emptyHeap G)).n = G := q1
  obtain ⟨r1, r2⟩ := foldRo rows (ts.foldl (setRo els) (emptyHeap G)) fun b hb => by
    rw [hn] at hb
    rcases q2 b with q | ⟨t, h1, h2, _⟩
    · rw [q]; rfl
    · have := hts t h1; omega
  rw [hn] at r1 r2
  exact ⟨r1, r2⟩
theorem heapT_tab {G : Nat} {els : Nat → Nat} {ts : List Tab} {rows : List (List AV × Nat)} (hts : ∀ t ∈ ts, t.g < G) (hn : (ts.map (·.g)).Nodup) {t : Tab} (ht : t ∈ ts) : (heapT G els ts rows).get t.g = some (t.obj els) := by
  rw [(heapT_n G els ts rows hts).2, if_pos (hts t ht)]
  exact foldSet_at els ts _ hn t ht
theorem heapT_in {G : Nat} {els : Nat → Nat} {ts : List Tab} {rows : List (List AV × Nat)} (hts : ∀ t ∈ ts, t.g < G) (hn : (ts.map (·.g)).Nodup) : tabsIn (heapT G els ts rows) ts = true :=
  tabsIn_of fun t ht => isTab_of (heapT_tab hts hn ht)
/-- A table lies in the world. -/
def TabAt (W : World) (els : Nat → Nat) (t : Tab) : Prop := ∃ c fz, W.heap[t.g]? = some (.cells c (els t.g) fz) ∧ ∀ (j : Nat) (x : Nat), t.xs[j]? = some x → c[j]? = some (.int .u8 (Int.ofNat x))
theorem u8s_get : ∀ (xs : List Nat) (j : Nat), (u8s xs)[j]? = (xs[j]?).map fun x => .int .u8 (Int.ofNat x)
  | [], j => by simp [u8s]
  | x :: xs, 0 => by simp [u8s]
  | x :: xs, j + 1 => by simp [u8s, u8s_get xs j]
def szW (W : World) (g : Nat) : Nat := match W.heap[g]? with
  | some (.cells c _ _) => c.size
  | _ => 0
theorem start_tabs {P : Program} {W : World} (hW : P.globals.size ≤ W.heap.size) (els : Nat → Nat) (ts : List Tab) (hts : ∀ t ∈ ts, t.g < P.globals.size ∧ TabAt W els t) (l : List (Img × List AV × Nat)) (hl : ∀ x ∈ l, RowW W x.1 x.2.1 x.2.2) :
    HRel (muT P.globals.size (szW W) (l.map (·.1))) (heapT P.globals.size els ts (l.map (·.2))) W ∧ GRel P (muT P.globals.size (szW W) (l.map (·.1))) ∧ Roed (heapT P.globals.size els ts (l.map (·.2))) := by
  obtain ⟨hn, hg⟩ := heapT_n P.globals.size els ts (l.map (·.2)) fun t ht => (hts t ht).1
  have ro : ∀ b o, (heapT P.globals.size els ts (l.map (·.2))).get b = some o → (∃ x, l[b - P.globals.size]? = some x ∧ ¬ b < P.globals.size ∧ o = .cells x.2.1 x.2.2 .ro 0 0) ∨ (b < P.globals.size ∧ ∃ t ∈ ts, t.g = b ∧ o = t.obj els) := by
    intro b o h
    rw [hg] at h
    split at h
    · rename_i hb
      rcases (foldSet els ts (emptyHeap P.globals.size)).2 b with q | ⟨t, h1, h2, h3⟩
      · rw [q] at h; cases h
      · rw [h3] at h; cases h; exact .inr ⟨hb, t, h1, h2, rfl⟩
    · rename_i hb
      rw [List.getElem?_map] at h
      cases hx : l[b - P.globals.size]? with
      | none => rw [hx] at h; cases h
      | some x => rw [hx] at h; cases h; exact .inl ⟨x, rfl, hb, rfl⟩
  refine ⟨⟨fun b o j h hj => ?_, fun b c' j k h1 h2 => ?_, fun b j h => ?_, fun b h => ?_⟩, fun g hg => ⟨⟨g, 0, szW W g⟩, by simp [muT, hg], rfl, rfl⟩, fun b o h => ?_⟩
  · rcases ro b o h with ⟨x, hx, hb, rfl⟩ | ⟨hb, t, ht, rfl, rfl⟩
    · unfold muT at hj
      rw [if_neg hb, List.getElem?_map, hx] at hj
      cases hj
      obtain ⟨c, fz, q1, q2, q3⟩ := hl x (List.mem_of_getElem? hx)
      exact ⟨c, fz.1, fz.2, q1, q2 _, q3, trivial⟩
    · unfold muT at hj
      rw [if_pos hb] at hj
      cases hj
      obtain ⟨_, c, fz, q1, q2⟩ := hts t ht
      refine ⟨c, fz.1, fz.2, q1, fun j v hv => ?_, by show 0 + szW W t.g = c.size; unfold szW; rw [q1]; simp, trivial⟩
      rw [u8s_get] at hv
      cases hx : t.xs[j]? with
      | none => rw [hx] at hv; cases hv
      | some x =>
        rw [hx] at hv; cases hv
        exact ⟨_, by rw [Nat.zero_add]; exact q2 j x hx, rfl⟩
  · obtain ⟨o, h2, h3⟩ := h2
    rcases ro _ o h2 with ⟨x, _, _, rfl⟩ | ⟨_, t, _, _, rfl⟩ <;> cases h3
  · rw [hn, List.length_map]
    unfold muT at h
    split at h
    · rename_i hb; cases h; exact ⟨by omega, Nat.lt_of_lt_of_le hb hW⟩
    · rw [List.getElem?_map] at h
      cases hx : l[b - P.globals.size]? with
      | none => rw [hx] at h; cases h
      | some x =>
        rw [hx] at h; cases h
        obtain ⟨c, fz, q1, _⟩ := hl x (List.mem_of_getElem? hx)
        have := (List.getElem?_eq_some_iff.1 hx).1
        exact ⟨by omega, (Array.getElem?_eq_some_iff.1 q1).1⟩
  · rw [hn, List.length_map] at h
    rw [hg, if_neg (by omega), List.getElem?_map, List.getElem?_eq_none (by omega)]; rfl
  · rcases ro b o h with ⟨x, _, _, rfl⟩ | ⟨_, t, _, _, rfl⟩ <;> rfl

/-! ### Calls told from a table, where tables lie -/
def tabIntrT (ts : List Tab) (T : List Ent) (f : Nat) (args : List AV) (h : AHeap) : Option (AV × AHeap) :=
  match tabIntr T f args h with
  | some r => match tabsIn h ts with
    | true => some r
    | false => none
  | none => none
def entT (P : Program) (els : Nat → Nat) (ts : List Tab) (intr : Nat → List AV → AHeap → Option (AV × AHeap)) (n : Nat) (e : Ent) : Bool :=
  match callN P intr n (.fn e.f) e.args (heapT P.globals.size els ts []) with
  | .ret v _ => AV.beq v e.v && refFree e.v && refFrees e.args
  | _ => false
def EntT (P : Program) (ts : List Tab) (e : Ent) : Prop := ∃ (intr : Nat → List AV → AHeap → Option (AV × AHeap)) (n : Nat), IntrOK P intr ∧ ∀ els, entT P els ts intr n e = true
section
variable {P : Program}
theorem tabT_ok (hf : Fit P) {ts : List Tab} (hts : ∀ t ∈ ts, t.g < P.globals.size) {T : List Ent} (hT : ∀ e ∈ T, EntT P ts e) : IntrOK P (tabIntrT ts T) := by
  intro f args H v H' hx μ w vs hh hg hv
  unfold tabIntrT at hx
  split at hx
  · rename_i r hr
    split at hx
    · rename_i hin
      cases hx
      obtain ⟨rfl, e, he, rfl, rfl, rfl⟩ := tab_mem T f args H v H' hr
      obtain ⟨intr, n, hi, hb0⟩ := hT e he
      obtain ⟨els, hels⟩ : ∃ els : Nat → Nat, ∀ g, els g = match w.heap[g]? with | some (.cells _ el _) => el | _ => 0 := ⟨_, fun _ => rfl⟩
      have hb := hb0 els
      unfold entT at hb
      split at hb
      · rename_i v1 H1 hrun
        simp only [Bool.and_eq_true] at hb
        obtain ⟨⟨hb1, hb2⟩, hb3⟩ := hb
        have hv1 := beq_eq _ _ hb1
        subst hv1
        have hG : P.globals.size ≤ w.heap.size := by
          cases hsz : P.globals.size with
          | zero => exact Nat.zero_le _
          | succ g =>
            obtain ⟨i, h1, h2, h3⟩ := hg g (by omega)
            have := (hh.lt _ i h1).2
            omega
        have hta : ∀ t ∈ ts, t.g < P.globals.size ∧ TabAt w els t := fun t ht => by
          refine ⟨hts t ht, ?_⟩
          obtain ⟨el, hget⟩ := isTab_get (tabsIn_mem hin t ht)
          obtain ⟨i, h1, h2, h3⟩ := hg t.g (hts t ht)
          obtain ⟨c, flo, fhi, k1, k2, k3, _⟩ := hh.rel _ _ i hget h1
          rw [h2] at k1
          rw [h3] at k2
          refine ⟨c, (flo, fhi), by rw [hels, k1], fun j x hj => ?_⟩
          obtain ⟨u, hu1, hu2⟩ := k2 j _ (by rw [u8s_get, hj]; rfl)
          rw [Nat.zero_add] at hu1
          rw [hu1, hu2]
        obtain ⟨s1, s2, s3⟩ := start_tabs (P := P) hG els ts hta [] (by simp)
        have hgo := (run_ok hf hi n).fn e.f e.args (heapT P.globals.size els ts []) (by rw [hrun]; rfl) _ w vs s1 s2 (refFrees_rel _ _ hb3 hv)
        rw [hrun] at hgo
        refine hgo.mono fun en w' hen => ?_
        obtain ⟨μ', u, rfl, q1, q2, q3⟩ := hen
        have hold : ∀ r, r < w.heap.size → w'.heap[r]? = w.heap[r]? := (q3.below s3 s1).block
        refine ⟨μ, u, rfl, refFree_rel _ _ hb2 q1, ⟨fun b o i hb hi => (hh.rel b o i hb hi).mono (Le.refl μ) (hold _ (hh.lt b i hi).2), hh.inj, fun b i hi => ⟨(hh.lt b i hi).1, Nat.lt_of_lt_of_le (hh.lt b i hi).2 q3.size⟩, hh.bound⟩, ?_⟩
        exact ⟨Le.refl μ, q3.size, Nat.le_refl _, fun _ _ hl => hl, fun _ _ _ => rfl, fun r hr _ => hold r hr, (fun b i h1 h2 => by rw [h1] at h2; cases h2), fun b o i hb _ hi => ⟨hb, hold _ (hh.lt b i hi).2⟩, q3.os, q3.out, q3.tape, q3.drawn⟩
      · cases hb
    · cases hx
  · cases hx
end
end AEv

namespace AEv
open Go Go.ChangeShapes Go.WideShapes Go.ChangeAt Go.RowKit

/-- The element's type of each variable's row. -/
def elsW (W : World) (g : Nat) : Nat := match W.heap[g]? with
  | some (.cells _ el _) => el
  | _ => 0
theorem tab_laid {P : Program} {W : World} {n : String} {d : DataW Unit} {g t N e fuel : Nat} {cs : Array Value} {p : List MemPlace} (ht : P.underlying t = some (.array N e)) (he : P.underlying e = some (.int .u8)) (hc : P.cellsOf e = 1)
    (hg : P.globalNamed n = some g) (hv : W.var? P n = some cs) (hd : DataW.trod (fun _ => ()) P W 0 (fun _ => true) false fuel t cs.toList = some (d, p)) (xs : List Nat) (hx : d = .agg (xs.map fun x => .lit (.int .u8 (Int.ofNat x)))) :
    TabAt W (elsW W) ⟨g, xs⟩ := by
  unfold World.var? at hv
  rw [hg, Option.bind_some] at hv
  split at hv
  · rename_i cs' el fz hb
    cases hv
    refine ⟨cs, fz, by unfold elsW; rw [hb], fun r x hr => ?_⟩
    obtain ⟨ys, m, _, ex, _, hl, hel⟩ := DataW.trod_array ht hd
    have e3 : (ys.map (·.1)) = xs.map fun x => .lit (.int .u8 (Int.ofNat x)) := by
      have := (Prod.mk.inj ex).1
      rw [hx] at this
      exact (DataW.agg.inj this).symm
    have hlen : ys.length = xs.length := by simpa using congrArg List.length e3
    have hrl : r < xs.length := (List.getElem?_eq_some_iff.1 hr).1
    have hE := hel r (by omega)
    rw [hc, Nat.mul_one, List.getElem?_eq_getElem (by omega)] at hE
    obtain ⟨z, e1, e2, _⟩ := DataW.trod_int he hE
    have e4 : (ys.map (·.1))[r]? = (xs.map fun x => (DataW.lit (.int .u8 (Int.ofNat x)) : DataW Unit))[r]? := by rw [e3]
    rw [List.getElem?_map, List.getElem?_map, List.getElem?_eq_getElem (by omega : r < ys.length), hr, e2] at e4
    have hz : z = Int.ofNat x := by simpa using e4
    subst hz
    have h0 : ((cs.toList.drop r).take 1)[0]? = some (.int .u8 (Int.ofNat x)) := by rw [e1]; rfl
    have h1 : cs.toList[r]? = some (.int .u8 (Int.ofNat x)) := by simpa using h0
    simpa using h1
  · cases hv
end AEv

namespace AEv
open Go Go.RowKit

mutual
/-- The blocks from G on come to lie from n on; there is no word of others. -/
def renV (G n : Nat) : AV → AV
  | .bad => .bad
  | .bool b => .bool b
  | .int k x => .int k x
  | .str s => .str s
  | .nilP => .nilP
  | .ptr b o => match Nat.blt b G with
    | true => .bad
    | false => .ptr (b - G + n) o
  | .nilS => .nilS
  | .slice b o l c => match Nat.blt b G with
    | true => .bad
    | false => .slice (b - G + n) o l c
  | .nilM => .nilM
  | .map r => match Nat.blt r G with
    | true => .bad
    | false => .map (r - G + n)
  | .nilF => .nilF
  | .fn f a b => .fn f (renVs G n a) (renVs G n b)
  | .yld l => .bad
  | .nilI => .nilI
  | .iface t v => .iface t (renV G n v)
  | .agg cs => .agg (renVs G n cs)
  | .tup vs => .tup (renVs G n vs)
def renVs (G n : Nat) : List AV → List AV
  | [] => []
  | v :: vs => renV G n v :: renVs G n vs
end
theorem renVs_len (G n : Nat) : ∀ l, (renVs G n l).length = l.length
  | [] => rfl
  | v :: l => by simp [renVs, renVs_len G n l]
theorem renVs_get (G n : Nat) : ∀ (l : List AV) (j : Nat), (renVs G n l)[j]? = (l[j]?).map (renV G n)
  | [], j => by simp [renVs]
  | v :: l, 0 => by simp [renVs]
  | v :: l, j + 1 => by simp [renVs, renVs_get G n l j]
mutual
theorem renV_rel {μ μ' : Mu} {G n : Nat} (h : ∀ b i, ¬ b < G → μ b = some i → μ' (b - G + n) = some i) : ∀ (a : AV) (v : Value), VRel μ a v → VRel μ' (renV G n a) v
  | .bad, _, _ => trivial
  | .bool _, _, h => h
  | .int _ _, _, h => h
  | .str _, _, h => h
  | .nilP, _, h => h
  | .ptr b off, _, ⟨i, hi, e⟩ => by
    simp only [renV]
    split
    · trivial
    · rename_i hb
      have hb' : ¬ b < G := by
        intro hx; rw [← Nat.blt_eq] at hx; rw [hx] at hb; cases hb
      exact ⟨i, h _ _ hb' hi, e⟩
  | .nilS, _, h => h
  | .slice b off len cap, _, ⟨i, hi, e⟩ => by
    simp only [renV]
    split
    · trivial
    · rename_i hb
      have hb' : ¬ b < G := by
        intro hx; rw [← Nat.blt_eq] at hx; rw [hx] at hb; cases hb
      exact ⟨i, h _ _ hb' hi, e⟩
  | .nilM, _, h => h
  | .map r, _, ⟨i, hi, e⟩ => by
    simp only [renV]
    split
    · trivial
    · rename_i hb
      have hb' : ¬ r < G := by
        intro hx; rw [← Nat.blt_eq] at hx; rw [hx] at hb; cases hb
      exact ⟨i, h _ _ hb' hi, e⟩
  | .nilF, _, h => h
  | .fn f first caps, _, ⟨fs, cs, e, h1, h2⟩ => ⟨fs, cs, e, renVs_rel h _ _ h1, renVs_rel h _ _ h2⟩
  | .yld l, _, _ => trivial
  | .nilI, _, h => h
  | .iface t x, _, ⟨y, e, hx⟩ => ⟨y, e, renV_rel h _ _ hx⟩
  | .agg cs, _, ⟨l, e, hx⟩ => ⟨l, e, renVs_rel h _ _ hx⟩
  | .tup cs, _, ⟨l, e, hx⟩ => ⟨l, e, renVs_rel h _ _ hx⟩
theorem renVs_rel {μ μ' : Mu} {G n : Nat} (h : ∀ b i, ¬ b < G → μ b = some i → μ' (b - G + n) = some i) : ∀ (as : List AV) (vs : List Value), VRels μ as vs → VRels μ' (renVs G n as) vs
  | [], _, h => h
  | a :: as, _, ⟨v, vs, e, h1, h2⟩ => ⟨v, vs, e, renV_rel h _ _ h1, renVs_rel h _ _ h2⟩
end
def renE (G n : Nat) (e : AEnt) : AEnt := ⟨renV G n e.key, renV G n e.val, e.born⟩
def renO (G n : Nat) : AObj → Option AObj
  | .cells cs el k lo hi => some (.cells (renVs G n cs) el k lo hi)
  | .map es c => some (.map (es.map (renE G n)) c)
  | _ => none
theorem renEs_rel {μ μ' : Mu} {G n : Nat} (h : ∀ b i, ¬ b < G → μ b = some i → μ' (b - G + n) = some i) : ∀ (es : List AEnt) (ms : List MapEntry), EntsRel μ es ms → EntsRel μ' (es.map (renE G n)) ms
  | [], _, h => h
  | e :: es, _, ⟨m, ms, q, ⟨h1, h2, h3⟩, h4⟩ => ⟨m, ms, q, ⟨renV_rel h _ _ h1, renV_rel h _ _ h2, h3⟩, renEs_rel h es ms h4⟩
theorem renO_rel {μ μ' : Mu} {G n : Nat} (h : ∀ b i, ¬ b < G → μ b = some i → μ' (b - G + n) = some i) {o o' : AObj} (he : renO G n o = some o') {i : Img} {w : World} (hr : ORel μ o i w) : ORel μ' o' i w := by
  cases o with
  | cells cs el k lo hi =>
    simp only [renO, Option.some.injEq] at he
    subst he
    obtain ⟨c, flo, fhi, h1, h2, h3, h4⟩ := hr
    refine ⟨c, flo, fhi, h1, fun j v hj => ?_, h3, ?_⟩
    · rw [renVs_get] at hj
      cases hx : cs[j]? with
      | none => rw [hx] at hj; cases hj
      | some v' =>
        rw [hx] at hj; cases hj
        obtain ⟨u, q1, q2⟩ := h2 j v' hx
        exact ⟨u, q1, renV_rel h _ _ q2⟩
    · cases k <;> simp only [KRel, renVs_len] at h4 ⊢ <;> exact h4
  | map es c =>
    simp only [renO, Option.some.injEq] at he
    subst he
    obtain ⟨ents, h1, h2⟩ := hr
    exact ⟨ents, h1, renEs_rel h _ _ h2⟩
  | strIter _ _ => cases he
  | mapIter _ _ _ _ => cases he
  | loop _ _ _ _ _ _ _ _ => cases he
  | defrd _ => cases he
  | raw _ => cases he
theorem renO_ro {G n : Nat} {o o' : AObj} (he : renO G n o = some o') : o'.isRo = o.isRo := by
  cases o with
  | cells cs el k lo hi => simp only [renO, Option.some.injEq] at he; subst he; cases k <;> rfl
  | map es c => simp only [renO, Option.some.injEq] at he; subst he; rfl
  | strIter _ _ => cases he
  | mapIter _ _ _ _ => cases he
  | loop _ _ _ _ _ _ _ _ => cases he
  | defrd _ => cases he
  | raw _ => cases he

def push? (h : AHeap) (o : Option AObj) : AHeap := ⟨HT.setN (h.n + 1) h.t h.n o, h.n + 1⟩
theorem push?_get (h : AHeap) (o : Option AObj) (c : Nat) : (push? h o).get c = if c = h.n then o else h.get c := HT.get_set _ _ _ _ _ (Nat.lt_succ_self _)
/-- What lies from G on in H1 comes to lie behind h. -/
def graft (G n : Nat) (H1 : AHeap) (h : AHeap) : Nat → AHeap
  | 0 => h
  | k + 1 => push? (graft G n H1 h k) ((H1.get (G + k)).bind (renO G n))
theorem graft_n (G n : Nat) (H1 h : AHeap) : ∀ k, (graft G n H1 h k).n = h.n + k
  | 0 => rfl
  | k + 1 => by show (graft G n H1 h k).n + 1 = _; rw [graft_n G n H1 h k]; omega
theorem graft_get (G n : Nat) (H1 h : AHeap) : ∀ (k b : Nat), (graft G n H1 h k).get b = if b < h.n then h.get b else if b < h.n + k then (H1.get (G + (b - h.n))).bind (renO G n) else h.get b
  | 0, b => by
    show h.get b = _
    by_cases h1 : b < h.n
    · rw [if_pos h1]
    · rw [if_neg h1, if_neg (by omega)]
  | k + 1, b => by
    show (push? (graft G n H1 h k) _).get b = _
    rw [push?_get, graft_n, graft_get G n H1 h k b]
    by_cases h1 : b < h.n
    · rw [if_neg (by omega), if_pos h1, if_pos h1]
    · rw [if_neg h1, if_neg h1]
      by_cases h2 : b = h.n + k
      · subst h2
        rw [if_pos rfl, if_pos (by omega), Nat.add_sub_cancel_left]
      · rw [if_neg h2]
        by_cases h3 : b < h.n + k
        · rw [if_pos h3, if_pos (by omega)]
        · rw [if_neg h3, if_neg (by omega)]

-- two runs that leave the same

def beqE : List AEnt → List AEnt → Bool
  | [], [] => true
  | a :: l, b :: m => AV.beq a.key b.key && AV.beq a.val b.val && Nat.beq a.born b.born && beqE l m
  | _, _ => false
theorem beqE_eq : ∀ (l m : List AEnt), beqE l m = true → l = m
  | [], [], _ => rfl
  | ⟨k, v, n⟩ :: l, ⟨k', v', n'⟩ :: m, h => by
    simp only [beqE, Bool.and_eq_true] at h
    obtain ⟨⟨⟨h1, h2⟩, h3⟩, h4⟩ := h
    have e1 : k = k' := beq_eq _ _ h1
    have e2 : v = v' := beq_eq _ _ h2
    have e3 : n = n' := Nat.eq_of_beq_eq_true h3
    rw [beqE_eq l m h4, e1, e2, e3]
def BK.code : BK → Nat
  | .own => 0 | .opn => 1 | .ro => 2 | .fz => 3
theorem BK.code_inj {a b : BK} (h : a.code = b.code) : a = b := by cases a <;> cases b <;> first | rfl | (simp [BK.code] at h)
def beqO : Option AObj → Option AObj → Bool
  | some (.cells a el k lo hi), some (.cells b el' k' lo' hi') => AV.beqs a b && Nat.beq el el' && Nat.beq k.code k'.code && Nat.beq lo lo' && Nat.beq hi hi'
  | some (.map a c), some (.map b c') => beqE a b && Nat.beq c c'
  | some (.cells ..), _ => false
  | some (.map ..), _ => false
  | _, some (.cells ..) => false
  | _, some (.map ..) => false
  | _, _ => true
theorem beqO_ren (G n : Nat) {a b : Option AObj} (h : beqO a b = true) : a.bind (renO G n) = b.bind (renO G n) := by
  cases a with
  | none => cases b with
    | none => rfl
    | some y => cases y <;> first | rfl | (simp [beqO] at h)
  | some x => cases b with
    | none => cases x <;> first | rfl | (simp [beqO] at h)
    | some y =>
      cases x <;> cases y <;> first
        | rfl
        | (simp [beqO] at h; done)
        | (simp only [beqO, Bool.and_eq_true] at h
           obtain ⟨⟨⟨⟨h1, h2⟩, h3⟩, h4⟩, h5⟩ := h
           rw [beqs_eq _ _ h1, Nat.eq_of_beq_eq_true h2, BK.code_inj (Nat.eq_of_beq_eq_true h3), Nat.eq_of_beq_eq_true h4, Nat.eq_of_beq_eq_true h5])
        | (simp only [beqO, Bool.and_eq_true] at h
           rw [beqE_eq _ _ h.1, Nat.eq_of_beq_eq_true h.2])
def cmpN (G : Nat) (H H' : AHeap) : Nat → Bool
  | 0 => true
  | k + 1 => match beqO (H.get (G + k)) (H'.get (G + k)) with
    | true => cmpN G H H' k
    | false => false
theorem cmpN_spec {G : Nat} {H H' : AHeap} : ∀ {k : Nat}, cmpN G H H' k = true → ∀ j, j < k → beqO (H.get (G + j)) (H'.get (G + j)) = true
  | 0, _, j, hj => by omega
  | k + 1, h, j, hj => by
    simp only [cmpN] at h
    split at h
    · rename_i h1
      rcases Nat.lt_or_ge j k with h2 | h2
      · exact cmpN_spec h j h2
      · obtain rfl : j = k := by omega
        exact h1
    · cases h
theorem cmpN_graft {G n : Nat} {H H' : AHeap} (h0 : AHeap) : ∀ {k : Nat}, cmpN G H H' k = true → graft G n H h0 k = graft G n H' h0 k
  | 0, _ => rfl
  | k + 1, h => by
    have h1 := cmpN_spec h k (by omega)
    have h2 : cmpN G H H' k = true := by
      simp only [cmpN, h1] at h; exact h
    show push? _ _ = push? _ _
    rw [cmpN_graft h0 h2, beqO_ren G n h1]
def sameR (G : Nat) : FRes → FRes → Bool
  | .ret v H, .ret v' H' => AV.beq v v' && Nat.beq H.n H'.n && cmpN G H H' (H.n - G)
  | _, _ => false

structure EntR where
  f : Nat
  args : List AV
  r : FRes
def intrR (G : Nat) (ts : List Tab) : List EntR → Nat → List AV → AHeap → Option (AV × AHeap)
  | [], _, _, _ => none
  | e :: T, f, args, h => match Nat.beq f e.f with
    | true => match AV.beqs args e.args with
      | true => match tabsIn h ts with
        | true => match e.r with
          | .ret v H => some (renV G h.n v, graft G h.n H h (H.n - G))
          | _ => none
        | false => none
      | false => intrR G ts T f args h
    | false => intrR G ts T f args h
theorem intrR_mem {G : Nat} {ts : List Tab} : ∀ {T : List EntR} {f : Nat} {args : List AV} {h : AHeap} {v : AV} {h' : AHeap}, intrR G ts T f args h = some (v, h') → tabsIn h ts = true ∧ ∃ e ∈ T, e.f = f ∧ e.args = args ∧ ∃ v0 H0, e.r = .ret v0 H0 ∧ v = renV G h.n v0 ∧ h' = graft G h.n H0 h (H0.n - G)
  | [], _, _, _, _, _, hx => by cases hx
  | e :: T, f, args, h, v, h', hx => by
    simp only [intrR] at hx
    have rest : intrR G ts T f args h = some (v, h') → tabsIn h ts = true ∧ ∃ e' ∈ e :: T, e'.f = f ∧ e'.args = args ∧ ∃ v0 H0, e'.r = .ret v0 H0 ∧ v = renV G h.n v0 ∧ h' = graft G h.n H0 h (H0.n - G) := fun hx => by
      obtain ⟨h0, e', h1, h2⟩ := intrR_mem hx
      exact ⟨h0, e', List.mem_cons_of_mem _ h1, h2⟩
    split at hx
    · rename_i hf
      split at hx
      · rename_i ha
        split at hx
        · rename_i ht
          split at hx
          · rename_i v0 H0 hr
            cases hx
            exact ⟨ht, e, by simp, (Nat.eq_of_beq_eq_true hf).symm, (beqs_eq _ _ ha).symm, v0, H0, hr, rfl, rfl⟩
          · cases hx
        · cases hx
      · exact rest hx
    · exact rest hx
section
variable {P : Program}
def EntROK (P : Program) (ts : List Tab) (e : EntR) : Prop := ∃ (intr : Nat → List AV → AHeap → Option (AV × AHeap)) (n : Nat), IntrOK P intr ∧ refFrees e.args = true ∧ ∀ els, sameR P.globals.size (callN P intr n (.fn e.f) e.args (heapT P.globals.size els ts [])) e.r = true
theorem intrR_ok (hf : Fit P) {ts : List Tab} (hts : ∀ t ∈ ts, t.g < P.globals.size) {T : List EntR} (hT : ∀ e ∈ T, EntROK P ts e) : IntrOK P (intrR P.globals.size ts T) := by
  intro f args H v H' hx μ w vs hh hg hv
  obtain ⟨hin, e, he, rfl, rfl, v0, H0, hr, rfl, rfl⟩ := intrR_mem hx
  obtain ⟨intr, n, hi, hb3, hb0⟩ := hT e he
  obtain ⟨els, hels⟩ : ∃ els : Nat → Nat, ∀ g, els g = match w.heap[g]? with | some (.cells _ el _) => el | _ => 0 := ⟨_, fun _ => rfl⟩
  have hb := hb0 els
  rw [hr] at hb
  unfold sameR at hb
  split at hb
  · rename_i v1 H1 v2 H2 hrun h2
    cases h2
    simp only [Bool.and_eq_true] at hb
    obtain ⟨⟨hb1, hb2⟩, hb4⟩ := hb
    have hv1 := beq_eq _ _ hb1
    subst hv1
    have hn1 : H1.n = H0.n := Nat.eq_of_beq_eq_true hb2
    have hgr : graft P.globals.size H.n H0 H (H0.n - P.globals.size) = graft P.globals.size H.n H1 H (H1.n - P.globals.size) := by
      rw [← hn1]; exact (cmpN_graft H hb4).symm
    rw [hgr]
    have hG : P.globals.size ≤ w.heap.size := by
      cases hsz : P.globals.size with
      | zero => exact Nat.zero_le _
      | succ g =>
        obtain ⟨i, h1, h2, h3⟩ := hg g (by omega)
        have := (hh.lt _ i h1).2
        omega
    have hta : ∀ t ∈ ts, t.g < P.globals.size ∧ TabAt w els t := fun t ht => by
      refine ⟨hts t ht, ?_⟩
      obtain ⟨el, hget⟩ := isTab_get (tabsIn_mem hin t ht)
      obtain ⟨i, h1, h2, h3⟩ := hg t.g (hts t ht)
      obtain ⟨c, flo, fhi, k1, k2, k3, _⟩ := hh.rel _ _ i hget h1
      rw [h2] at k1
      rw [h3] at k2
      refine ⟨c, (flo, fhi), by rw [hels, k1], fun j x hj => ?_⟩
      obtain ⟨u, hu1, hu2⟩ := k2 j _ (by rw [u8s_get, hj]; rfl)
      rw [Nat.zero_add] at hu1
      rw [hu1, hu2]
    obtain ⟨s1, s2, s3⟩ := start_tabs (P := P) hG els ts hta [] (by simp)
    have hgo := (run_ok hf hi n).fn e.f e.args (heapT P.globals.size els ts []) (by rw [hrun]; rfl) _ w vs s1 s2 (refFrees_rel _ _ hb3 hv)
    rw [hrun] at hgo
    refine hgo.mono fun en w' hen => ?_
    obtain ⟨μ1, u, rfl, q1, q2, q3⟩ := hen
    have hold : ∀ r, r < w.heap.size → w'.heap[r]? = w.heap[r]? := (q3.below s3 s1).block
    obtain ⟨μ', hμ'⟩ : ∃ μ' : Mu, ∀ b, μ' b = if b < H.n then μ b else μ1 (b - H.n + P.globals.size) := ⟨_, fun _ => rfl⟩
    have hGn : P.globals.size ≤ H1.n := by
      have := q3.n
      rw [(heapT_n P.globals.size els ts [] fun t ht => hts t ht).1] at this
      simpa using this
    have hle : Le μ μ' := fun b i hb => by rw [hμ', if_pos (hh.lt b i hb).1]; exact hb
    have hren : ∀ b i, ¬ b < P.globals.size → μ1 b = some i → μ' (b - P.globals.size + H.n) = some i := fun b i hb h1 => by
      rw [hμ', if_neg (by omega)]
      have e1 : b - P.globals.size + H.n - H.n + P.globals.size = b := by omega
      rw [e1]; exact h1
    have hnew : ∀ b i, ¬ b < H.n → μ' b = some i → μ1 (b - H.n + P.globals.size) = some i ∧ b < H.n + (H1.n - P.globals.size) ∧ w.heap.size ≤ i.blk := fun b i hb h1 => by
      rw [hμ', if_neg hb] at h1
      have h2 := q2.lt _ i h1
      refine ⟨h1, by omega, ?_⟩
      have hm : muT P.globals.size (szW w) (([] : List (Img × List AV × Nat)).map (·.1)) (b - H.n + P.globals.size) = none := by
        unfold muT; rw [if_neg (by omega)]; rfl
      rcases (q3.new _ i hm h1).2 with h3 | ⟨c, o, j, h3, h4, _⟩
      · exact h3
      · have := s3 c o h3; rw [h4] at this; cases this
    have hget : ∀ b, (graft P.globals.size H.n H1 H (H1.n - P.globals.size)).get b = if b < H.n then H.get b else if b < H.n + (H1.n - P.globals.size) then (H1.get (P.globals.size + (b - H.n))).bind (renO P.globals.size H.n) else H.get b := graft_get _ _ _ _ _
    have hgn : ∀ b o, ¬ b < H.n → (graft P.globals.size H.n H1 H (H1.n - P.globals.size)).get b = some o → ∃ o1, H1.get (b - H.n + P.globals.size) = some o1 ∧ renO P.globals.size H.n o1 = some o := fun b o hb h1 => by
      rw [hget, if_neg hb] at h1
      split at h1
      · rw [Nat.add_comm] at h1
        cases hx : H1.get (b - H.n + P.globals.size) with
        | none => rw [hx] at h1; cases h1
        | some o1 => rw [hx] at h1; exact ⟨o1, rfl, h1⟩
      · rw [hh.bound b (by omega)] at h1; cases h1
    refine ⟨μ', u, rfl, renV_rel hren _ _ q1, ⟨fun b o i hb hi => ?_, fun b c i j hb hc hi hj hij => ?_, fun b i hi => ?_, fun b hb => ?_⟩, ?_⟩
    · by_cases h1 : b < H.n
      · rw [hget, if_pos h1] at hb
        rw [hμ', if_pos h1] at hi
        exact (hh.rel b o i hb hi).mono hle (hold _ (hh.lt b i hi).2)
      · obtain ⟨o1, h2, h3⟩ := hgn b o h1 hb
        exact renO_rel hren h3 (q2.rel _ o1 i h2 (hnew b i h1 hi).1)
    · obtain ⟨oc, hc, hro⟩ := hc
      by_cases h1 : b < H.n
      · rw [hget, if_pos h1] at hb
        rw [hμ', if_pos h1] at hi
        by_cases h2 : c < H.n
        · rw [hget, if_pos h2] at hc
          rw [hμ', if_pos h2] at hj
          exact hh.inj b c i j hb ⟨oc, hc, hro⟩ hi hj hij
        · have q := (hnew c j h2 hj).2.2
          have := (hh.lt b i hi).2
          omega
      · have q := (hnew b i h1 hi)
        by_cases h2 : c < H.n
        · rw [hμ', if_pos h2] at hj
          have := (hh.lt c j hj).2
          have := q.2.2
          omega
        · obtain ⟨o1, k1, k2⟩ := hgn c oc h2 hc
          have hb' : H1.get (b - H.n + P.globals.size) ≠ none := fun hx => by
            cases hy : (graft P.globals.size H.n H1 H (H1.n - P.globals.size)).get b with
            | none => exact hb hy
            | some ob => obtain ⟨o2, k3, _⟩ := hgn b ob h1 hy; rw [hx] at k3; cases k3
          have := q2.inj _ _ i j hb' ⟨o1, k1, by rw [← renO_ro k2]; exact hro⟩ q.1 (hnew c j h2 hj).1 hij
          omega
    · by_cases h1 : b < H.n
      · rw [hμ', if_pos h1] at hi
        exact ⟨by rw [graft_n]; omega, Nat.lt_of_lt_of_le (hh.lt b i hi).2 q3.size⟩
      · have q := hnew b i h1 hi
        exact ⟨by rw [graft_n]; exact q.2.1, (q2.lt _ i q.1).2⟩
    · rw [graft_n] at hb
      rw [hget, if_neg (by omega), if_neg (by omega)]
      exact hh.bound b (by omega)
    · refine ⟨hle, q3.size, by rw [graft_n]; omega, fun b hb hl => ?_, fun b hb _ => ?_, fun r hr _ => hold r hr, fun b i h1 h2 => ?_, fun b o i hb _ hi => ?_, q3.os, q3.out, q3.tape, q3.drawn⟩
      · rw [hget, if_pos hb] at hl; exact hl
      · rw [hget, if_pos hb]
      · have hb : ¬ b < H.n := fun hb => by rw [hμ', if_pos hb, h1] at h2; cases h2
        exact ⟨by omega, .inl (hnew b i hb h2).2.2⟩
      · refine ⟨?_, hold _ (hh.lt b i hi).2⟩
        rw [hget, if_pos (hh.lt b i hi).1]; exact hb
  · cases hb
def orE (i1 i2 : Nat → List AV → AHeap → Option (AV × AHeap)) (f : Nat) (args : List AV) (h : AHeap) : Option (AV × AHeap) := match i1 f args h with
  | some r => some r
  | none => i2 f args h
theorem orE_ok {i1 i2 : Nat → List AV → AHeap → Option (AV × AHeap)} (h1 : IntrOK P i1) (h2 : IntrOK P i2) : IntrOK P (orE i1 i2) := by
  intro f args H v H' hx
  unfold orE at hx
  split at hx
  · rename_i r hr
    cases hx
    exact h1 f args H v H' hr
  · exact h2 f args H v H' hx
end
end AEv

namespace AEv
open Go Go.ChangeShapes Go.WideShapes Go.ChangeAt Go.RowKit

def pairsL : List (Nat × Nat) → List Nat
  | [] => []
  | (a, b) :: l => a :: b :: pairsL l
theorem pairsL_get : ∀ (l : List (Nat × Nat)) (j : Nat), (pairsL l)[2 * j]? = (l[j]?).map (·.1) ∧ (pairsL l)[2 * j + 1]? = (l[j]?).map (·.2)
  | [], j => by simp [pairsL]
  | (a, b) :: l, 0 => by simp [pairsL]
  | (a, b) :: l, j + 1 => by
    have ih := pairsL_get l j
    rw [show 2 * (j + 1) = 2 * j + 1 + 1 by omega]
    simp only [pairsL, List.getElem?_cons_succ]
    exact ih
theorem tab_laid2 {P : Program} {W : World} {n : String} {d : DataW Unit} {g t N e fuel : Nat} {f0 f1 : Field} {cs : Array Value} {p : List MemPlace} (ht : P.underlying t = some (.array N e)) (he : P.underlying e = some (.struct #[f0, f1])) (hc : P.cellsOf e = 2)
    (h0 : P.underlying f0.type = some (.int .u8)) (h1 : P.underlying f1.type = some (.int .u8)) (c0 : P.cellsOf f0.type = 1) (c1 : P.cellsOf f1.type = 1) (o0 : f0.offset = 0) (o1 : f1.offset = 1)
    (hg : P.globalNamed n = some g) (hv : W.var? P n = some cs) (hd : DataW.trod (fun _ => ()) P W 0 (fun _ => true) false fuel t cs.toList = some (d, p)) (xs : List (Nat × Nat)) (hx : d = .agg (xs.map fun x => .agg [.lit (.int .u8 (Int.ofNat x.1)), .lit (.int .u8 (Int.ofNat x.2))])) :
    TabAt W (elsW W) ⟨g, pairsL xs⟩ := by
  unfold World.var? at hv
  rw [hg, Option.bind_some] at hv
  split at hv
  · rename_i cs' el fz hb
    cases hv
    refine ⟨cs, fz, by unfold elsW; rw [hb], fun r x hr => ?_⟩
    obtain ⟨ys, m, _, ex, _, hl, hel⟩ := DataW.trod_array ht hd
    have e3 : (ys.map (·.1)) = xs.map fun x => .agg [.lit (.int .u8 (Int.ofNat x.1)), .lit (.int .u8 (Int.ofNat x.2))] := by
      have := (Prod.mk.inj ex).1
      rw [hx] at this
      exact (DataW.agg.inj this).symm
    have hlen : ys.length = xs.length := by simpa using congrArg List.length e3
    have key : ∀ (j : Nat) (q : Nat × Nat), xs[j]? = some q → cs.toList[2 * j]? = some (.int .u8 (Int.ofNat q.1)) ∧ cs.toList[2 * j + 1]? = some (.int .u8 (Int.ofNat q.2)) := by
      intro j q hq
      have hjl : j < xs.length := (List.getElem?_eq_some_iff.1 hq).1
      have hE := hel j (by omega)
      rw [hc, List.getElem?_eq_getElem (by omega)] at hE
      obtain ⟨y0, y1, m', ey, _, t0, t1⟩ := trod_struct2 he hE
      have e4 : (ys.map (·.1))[j]? = (xs.map fun x => (DataW.agg [.lit (.int .u8 (Int.ofNat x.1)), .lit (.int .u8 (Int.ofNat x.2))] : DataW Unit))[j]? := by rw [e3]
      rw [List.getElem?_map, List.getElem?_map, List.getElem?_eq_getElem (by omega : j < ys.length), hq, ey] at e4
      rw [o0, c0] at t0
      rw [o1, c1] at t1
      obtain ⟨z0, a1, a2, _⟩ := DataW.trod_int h0 (show DataW.trod (fun _ => ()) P W 0 (fun _ => true) false m' f0.type _ = some (y0.1, y0.2) from t0)
      obtain ⟨z1, b1, b2, _⟩ := DataW.trod_int h1 (show DataW.trod (fun _ => ()) P W 0 (fun _ => true) false m' f1.type _ = some (y1.1, y1.2) from t1)
      simp only [Option.map_some, Option.some.injEq, DataW.agg.injEq, List.cons.injEq] at e4
      obtain ⟨k0, k1, _⟩ := e4
      rw [(Prod.mk.inj a2).1] at k0
      rw [(Prod.mk.inj b2).1] at k1
      have hz0 : z0 = Int.ofNat q.1 := by simpa using k0
      have hz1 : z1 = Int.ofNat q.2 := by simpa using k1
      subst hz0; subst hz1
      have q0 : (((cs.toList.drop (j * 2)).take 2).drop 0 |>.take 1)[0]? = some (.int .u8 (Int.ofNat q.1)) := by rw [a1]; rfl
      have q1 : (((cs.toList.drop (j * 2)).take 2).drop 1 |>.take 1)[0]? = some (.int .u8 (Int.ofNat q.2)) := by rw [b1]; rfl
      rw [Nat.mul_comm] at q0 q1
      constructor
      · simpa using q0
      · simpa using q1
    obtain ⟨j, hj⟩ : ∃ j, r = 2 * j ∨ r = 2 * j + 1 := ⟨r / 2, by omega⟩
    have hp := pairsL_get xs j
    rcases hj with rfl | rfl
    · simp only at hr
      rw [hp.1] at hr
      cases hq : xs[j]? with
      | none => rw [hq] at hr; cases hr
      | some q => rw [hq] at hr; cases hr; simpa using (key j q hq).1
    · simp only at hr
      rw [hp.2] at hr
      cases hq : xs[j]? with
      | none => rw [hq] at hr; cases hr
      | some q => rw [hq] at hr; cases hr; simpa using (key j q hq).2
  · cases hv
end AEv

namespace AEv
open Go

/-- A world with more blocks. -/
def moreW (w : World) (os : Array Obj) : World := { w with heap := w.heap ++ os }
theorem moreW_old (w : World) (os : Array Obj) {r : Nat} (h : r < w.heap.size) : (moreW w os).heap[r]? = w.heap[r]? := by
  show (w.heap ++ os)[r]? = _
  rw [Array.getElem?_append_left h]
theorem moreW_size (w : World) (os : Array Obj) : (moreW w os).heap.size = w.heap.size + os.size := by show (w.heap ++ os).size = _; simp
theorem alloc_more (w : World) (o : Obj) : w.alloc o = moreW w #[o] := by
  unfold World.alloc moreW; simp
theorem more_more (w : World) (a b : Array Obj) : moreW (moreW w a) b = moreW w (a ++ b) := by unfold moreW; simp
theorem HRel.more {μ : Mu} {H : AHeap} {w : World} (h : HRel μ H w) (os : Array Obj) : HRel μ H (moreW w os) ∧ Adv μ H w μ H (moreW w os) := by
  have hold : ∀ r, r < w.heap.size → (moreW w os).heap[r]? = w.heap[r]? := fun r hr => moreW_old w os hr
  have hsz := moreW_size w os
  refine ⟨⟨fun b o i hb hi => (h.rel b o i hb hi).mono (Le.refl μ) (hold _ (h.lt b i hi).2), h.inj, fun b i hi => ⟨(h.lt b i hi).1, by have := (h.lt b i hi).2; omega⟩, h.bound⟩, ?_⟩
  exact ⟨Le.refl μ, by omega, Nat.le_refl _, fun _ _ hl => hl, fun _ _ _ => rfl, fun r hr _ => hold r hr, fun b i h1 h2 => (by rw [h1] at h2; cases h2), fun b o i hb _ hi => ⟨hb, hold _ (h.lt b i hi).2⟩, rfl, rfl, rfl, Nat.le_refl _⟩

/-- The handle of a type, laid in a variable of type reflectlite.Type. -/
def isErrT (rt ng te : Nat) : Option AObj → Bool
  | some (.raw (.cells ⟨[.iface a (.agg ⟨[.pointer (some ⟨b, c, none⟩)]⟩)]⟩ _ _)) => Nat.beq a rt && (Nat.beq b ng && Nat.beq c te)
  | _ => false
theorem isErrT_eq {rt ng te : Nat} {o : Option AObj} (h : isErrT rt ng te o = true) : ∃ el fz, o = some (.raw (.cells #[.iface rt (.agg #[.pointer (some ⟨ng, te, none⟩)])] el fz)) := by
  unfold isErrT at h
  split at h
  · rename_i a b c el fz
    simp only [Bool.and_eq_true] at h
    obtain ⟨h1, h2, h3⟩ := h
    have e1 := Nat.eq_of_beq_eq_true h1
    have e2 := Nat.eq_of_beq_eq_true h2
    have e3 := Nat.eq_of_beq_eq_true h3
    subst e1; subst e2; subst e3
    exact ⟨el, fz, rfl⟩
  · cases h

/-- The numbers that errors.As and errors.Is hang on. -/
structure ErN where
  fAs : Nat
  fIs : Nat
  tF : Nat
  tFF : Nat
  tE : Nat
  g : Nat
  rt : Nat
  ng : Nat
  te : Nat
/-- errors.As(a fault, a variable for one). -/
def asI (N : ErN) (f : Nat) (args : List AV) (H : AHeap) : Option (AV × AHeap) := match Nat.beq f N.fAs with
  | false => none
  | true => match args with
    | [.iface t1 (.ptr e eo), .iface t2 (.ptr p 0)] => match Nat.beq t1 N.tF && (Nat.beq t2 N.tFF && isErrT N.rt N.ng N.te (H.get N.g)) with
      | true => match H.get p with
        | some (.cells [_] el .own 0 0) => some (.bool true, H.set p (some (.cells [.ptr e eo] el .own 0 0)))
        | _ => none
      | false => none
    | _ => none
/-- errors.Is(a fault, its number). -/
def isI (N : ErN) (f : Nat) (args : List AV) (H : AHeap) : Option (AV × AHeap) := match Nat.beq f N.fIs with
  | false => none
  | true => match args with
    | [.iface t1 (.ptr e eo), .iface t2 (.int .i64 k)] => match Nat.beq t1 N.tF && Nat.beq t2 N.tE with
      | true => match load1 H e eo with
        | some (.int .i64 k') => match eqI k k' with
          | true => some (.bool true, H)
          | false => none
        | _ => none
      | false => none
    | _ => none
structure ErOK (P : Program) (N : ErN) : Prop where
  g : N.g < P.globals.size
  enterAs : ∀ args w, (callFunc N.fAs args).run P w = .ok (.enter N.fAs args) w
  enterIs : ∀ args w, (callFunc N.fIs args).run P w = .ok (.enter N.fIs args) w
  hAs : ∀ (e t : Addr) (old : Value) (w : World), w.cell? ⟨N.g, 0, none⟩ = some (.iface N.rt (.agg #[.pointer (some ⟨N.ng, N.te, none⟩)])) → w.cell? t = some old → w.frozen? t = false →
    Calls P N.fAs #[.iface N.tF (.pointer (some e)), .iface N.tFF (.pointer (some t))] w fun ev w' => ev = .returned (.bool true) ∧ ∃ os, w' = (moreW w os).setCell t (.pointer (some e))
  hIs : ∀ (a : Addr) (k : Int) (w : World), w.cell? a = some (.int .i64 k) → Calls P N.fIs #[.iface N.tF (.pointer (some a)), .iface N.tE (.int .i64 k)] w fun e w' => e = .returned (.bool true) ∧ w' = w
theorem asI_ok {P : Program} {N : ErN} (hN : ErOK P N) : IntrOK P (asI N) := by
  intro f args H v H' hx μ w vs hh hG hv
  unfold asI at hx
  cases hb : Nat.beq f N.fAs with
  | false => rw [hb] at hx; cases hx
  | true =>
    rw [hb] at hx
    have hfe : f = N.fAs := Nat.eq_of_beq_eq_true hb
    subst hfe
    simp only at hx
    split at hx
    · rename_i t1 e eo t2 p
      split at hx
      · rename_i hc
        simp only [Bool.and_eq_true] at hc
        obtain ⟨hc1, hc2, he⟩ := hc
        have e1 := Nat.eq_of_beq_eq_true hc1
        have e2 := Nat.eq_of_beq_eq_true hc2
        subst e1; subst e2
        obtain ⟨el0, fz0, hg⟩ := isErrT_eq he
        split at hx
        · rename_i x el hp
          cases hx
          obtain ⟨v1, r1, rfl, ⟨y1, rfl, ie, hie, rfl⟩, v2, r2, rfl, ⟨y2, rfl, ip, hip, rfl⟩, rfl⟩ := hv
          obtain ⟨ig, hig, q1, q2⟩ := hG N.g hN.g
          obtain ⟨_, hW⟩ := hh.rel _ _ _ hg hig
          rw [q1] at hW
          have hcell : w.cell? ⟨N.g, 0, none⟩ = some (.iface N.rt (.agg #[.pointer (some ⟨N.ng, N.te, none⟩)])) := by
            unfold World.cell?
            simp only [hW]
            rfl
          have hor := hh.rel _ _ _ hp hip
          obtain ⟨c, flo, fhi, h1, h2, h3, k1, k2, k3, k4⟩ := hor
          have k2' : ip.size = 1 := k2
          obtain ⟨u, hu, _⟩ := h2 0 x rfl
          have ht0 : w.cell? ⟨ip.blk, ip.base + 0, none⟩ = some u := (cell_at h1 _).trans hu
          have hf0 : w.frozen? ⟨ip.blk, ip.base + 0, none⟩ = false := by
            unfold World.frozen?
            simp only [h1, k3, k4]
            simp
          refine .inr ⟨hN.enterAs _ _, (hN.hAs ⟨ie.blk, ie.base + eo, none⟩ ⟨ip.blk, ip.base + 0, none⟩ u w hcell ht0 hf0).mono fun ev w' ⟨hev, os, hw⟩ => ?_⟩
          subst hev
          obtain ⟨m1, m2⟩ := hh.more os
          have hpb := (hh.lt p ip hip).2
          have h1' : (moreW w os).heap[ip.blk]? = some (.cells c el (flo, fhi)) := (moreW_old w os hpb).trans h1
          have hs : ∀ r, r ≠ ip.blk → ((moreW w os).setCell ⟨ip.blk, ip.base + 0, none⟩ (.pointer (some ⟨ie.blk, ie.base + eo, none⟩))).heap[r]? = (moreW w os).heap[r]? := by
            intro r hr
            unfold World.setCell
            simp only [Array.getElem?_modify]
            rw [if_neg (fun e => hr e.symm)]
          have hs2 : ((moreW w os).setCell ⟨ip.blk, ip.base + 0, none⟩ (.pointer (some ⟨ie.blk, ie.base + eo, none⟩))).heap[ip.blk]? = some (.cells (c.setIfInBounds (ip.base + 0) (.pointer (some ⟨ie.blk, ie.base + eo, none⟩))) el (flo, fhi)) := by
            unfold World.setCell
            simp only [Array.getElem?_modify, h1', if_true, Option.map_some]
            simp
          obtain ⟨u1, u2⟩ := HRel.update (o' := .cells [.ptr e eo] el .own 0 0) m1 hp rfl hip (w' := (moreW w os).setCell ⟨ip.blk, ip.base + 0, none⟩ (.pointer (some ⟨ie.blk, ie.base + eo, none⟩))) (by unfold World.setCell; simp) hs rfl rfl rfl
            ⟨_, flo, fhi, hs2, fun j v hj => by
              match j, hj with
              | 0, hj =>
                cases hj
                refine ⟨_, ?_, ⟨ie, hie, rfl⟩⟩
                rw [Array.getElem?_setIfInBounds_self_of_lt (by omega)], by simp; omega, k1, k2, k3, k4⟩
          subst hw
          exact ⟨μ, .bool true, rfl, rfl, u1, m2.trans hh m1 u2⟩
        · cases hx
      · cases hx
    · cases hx
theorem isI_ok {P : Program} {N : ErN} (hN : ErOK P N) : IntrOK P (isI N) := by
  intro f args H v H' hx μ w vs hh hG hv
  unfold isI at hx
  cases hb : Nat.beq f N.fIs with
  | false => rw [hb] at hx; cases hx
  | true =>
    rw [hb] at hx
    have hfe : f = N.fIs := Nat.eq_of_beq_eq_true hb
    subst hfe
    simp only at hx
    split at hx
    · rename_i t1 e eo t2 k
      split at hx
      · rename_i hc
        simp only [Bool.and_eq_true] at hc
        obtain ⟨hc1, hc2⟩ := hc
        have e1 := Nat.eq_of_beq_eq_true hc1
        have e2 := Nat.eq_of_beq_eq_true hc2
        subst e1; subst e2
        split at hx
        · rename_i k' hl
          split at hx
          · rename_i hk
            cases hx
            have hkk : k = k' := by simpa [eqI] using hk
            subst hkk
            obtain ⟨v1, r1, rfl, ⟨y1, rfl, ie, hie, rfl⟩, v2, r2, rfl, ⟨y2, rfl, rfl⟩, rfl⟩ := hv
            have hl2 : ∃ u, w.cell? ⟨ie.blk, ie.base + eo, none⟩ = some u ∧ VRel μ (.int .i64 k) u := by
              unfold load1 at hl
              split at hl
              · rename_i cs el kk lo hi' hbb
                rw [nth_eq] at hl
                exact cell_rel hh hie hbb hl
              · cases hl
            obtain ⟨u, hu, hvr⟩ := hl2
            have : u = .int .i64 k := hvr
            subst this
            refine .inr ⟨hN.enterIs _ _, (hN.hIs ⟨ie.blk, ie.base + eo, none⟩ k w ?_).mono fun ev w' ⟨hev, hw⟩ => ?_⟩
            · first | exact hu | exact hu.1
            · subst hev; subst hw
              exact ⟨μ, .bool true, rfl, rfl, hh, Adv.refl _ _ _⟩
          · cases hx
        · cases hx
      · cases hx
    · cases hx
end AEv

namespace AEv
open Go

theorem HRel.setRaw {μ : Mu} {H : AHeap} {w : World} (hh : HRel μ H w) (hro : Roed H) {g : Nat} {i : Img} {o : Obj} (hi : μ g = some i) (h0 : i.base = 0) (hW : w.heap[i.blk]? = some o) :
    HRel μ (H.set g (some (.raw o))) w ∧ Roed (H.set g (some (.raw o))) := by
  have hro' : Roed (H.set g (some (.raw o))) := fun b x hb => by
    rw [AHeap.get_set] at hb
    by_cases e : b = g
    · rw [if_pos e] at hb; cases hb; rfl
    · rw [if_neg e] at hb; exact hro b x hb
  refine ⟨⟨fun b x j hb hj => ?_, fun b c j k hb hc => ?_, fun b j hj => ?_, fun b hb => ?_⟩, hro'⟩
  · rw [AHeap.get_set] at hb
    by_cases e : b = g
    · subst e
      rw [if_pos rfl] at hb; cases hb
      rw [hi] at hj; cases hj
      exact ⟨h0, hW⟩
    · rw [if_neg e] at hb; exact hh.rel b x j hb hj
  · obtain ⟨x, hx, hr⟩ := hc
    have := hro' c x hx
    rw [this] at hr; cases hr
  · have := hh.lt b j hj
    exact ⟨by simpa using this.1, this.2⟩
  · rw [AHeap.get_set, if_neg]
    · exact hh.bound b (by simpa using hb)
    · intro e; subst e
      have := (hh.lt b i hi).1
      simp at hb; omega
theorem laidMet_layAny {P : Program} {w0 : World} {laid : List (String × DataW Unit)} (args : Array Value)
    (hf : w0.layFits P laid [] = true) (hi : w0.layIfaces P laid (w0.layVars P laid) = true) :
    laidMet P laid ((w0.layVars P laid).forCall (fun _ _ => 0) ⟨#[], args, []⟩).memory := by
  have e1 : (laid.filter fun x => (laid.map (·.1)).contains x.1) = laid := List.filter_eq_self.2 fun x hx => List.contains_iff_mem.2 (List.mem_map.2 ⟨x, hx, rfl⟩)
  have e2 : (laid.filter fun x => !(laid.map (·.1)).contains x.1) = [] := List.filter_eq_nil_iff.2 fun x hx => by rw [List.contains_iff_mem.2 (List.mem_map.2 ⟨x, hx, rfl⟩)]; simp
  have h : laidMet P laid (w0.layVars P laid) := laidMet_layVars (w0 := w0) (laid.map (·.1)) [] (by rw [e1]) (by rw [e1]; exact hf) (by rw [e1]; exact hi) (by rw [e2]; exact LaidIn.none)
  exact h.of_heap (by simp [World.memory, World.forCall, Input.heap])
theorem var_block {P : Program} {W : World} {n : String} {g : Nat} {cs : Array Value} (hg : P.globalNamed n = some g) (hv : W.var? P n = some cs) : ∃ el fz, W.heap[g]? = some (.cells cs el fz) := by
  unfold World.var? at hv
  rw [hg, Option.bind_some] at hv
  split at hv
  · rename_i cs' el fz hb
    cases hv
    exact ⟨el, fz, hb⟩
  · cases hv
end AEv

namespace AEv
open Go Go.RowKit

/-- What the second one knows of the memory from G on is so in the first one. -/
def subN (G : Nat) (H H' : AHeap) : Nat → Bool
  | 0 => true
  | k + 1 => match H'.get (G + k) with
    | none => subN G H H' k
    | some o => match beqO (some o) (H.get (G + k)) with
      | true => subN G H H' k
      | false => false
theorem subN_spec {G : Nat} {H H' : AHeap} : ∀ {k : Nat}, subN G H H' k = true → ∀ j, j < k → ∀ o, H'.get (G + j) = some o → beqO (some o) (H.get (G + j)) = true
  | 0, _, j, hj, _, _ => by omega
  | k + 1, h, j, hj, o, ho => by
    simp only [subN] at h
    rcases Nat.lt_or_ge j k with h2 | h2
    · split at h
      · exact subN_spec h j h2 o ho
      · split at h
        · exact subN_spec h j h2 o ho
        · cases h
    · obtain rfl : j = k := by omega
      rw [ho] at h
      simp only at h
      split at h
      · rename_i h1; exact h1
      · cases h
def subR (G : Nat) : FRes → FRes → Bool
  | .ret v H, .ret v' H' => AV.beq v v' && Nat.beq H.n H'.n && subN G H H' (H.n - G)
  | _, _ => false
/-- A memory of so many blocks, of which these are known. -/
def mkH (n : Nat) : List (Nat × AObj) → AHeap
  | [] => emptyHeap n
  | (b, o) :: l => (mkH n l).set b (some o)
section
variable {P : Program}
def EntSOK (P : Program) (ts : List Tab) (e : EntR) : Prop := ∃ (intr : Nat → List AV → AHeap → Option (AV × AHeap)) (n : Nat), IntrOK P intr ∧ refFrees e.args = true ∧ ∀ els, subR P.globals.size (callN P intr n (.fn e.f) e.args (heapT P.globals.size els ts [])) e.r = true
theorem intrS_ok (hf : Fit P) {ts : List Tab} (hts : ∀ t ∈ ts, t.g < P.globals.size) {T : List EntR} (hT : ∀ e ∈ T, EntSOK P ts e) : IntrOK P (intrR P.globals.size ts T) := by
  intro f args H v H' hx μ w vs hh hg hv
  obtain ⟨hin, e, he, rfl, rfl, v0, H0, hr, rfl, rfl⟩ := intrR_mem hx
  obtain ⟨intr, n, hi, hb3, hb0⟩ := hT e he
  obtain ⟨els, hels⟩ : ∃ els : Nat → Nat, ∀ g, els g = match w.heap[g]? with | some (.cells _ el _) => el | _ => 0 := ⟨_, fun _ => rfl⟩
  have hb := hb0 els
  rw [hr] at hb
  unfold subR at hb
  split at hb
  · rename_i v1 H1 v2 H2 hrun h2
    cases h2
    simp only [Bool.and_eq_true] at hb
    obtain ⟨⟨hb1, hb2⟩, hb4⟩ := hb
    have hv1 := beq_eq _ _ hb1
    subst hv1
    have hn1 : H1.n = H0.n := Nat.eq_of_beq_eq_true hb2
    rw [← hn1]
    have hG : P.globals.size ≤ w.heap.size := by
      cases hsz : P.globals.size with
      | zero => exact Nat.zero_le _
      | succ g =>
        obtain ⟨i, h1, h2, h3⟩ := hg g (by omega)
        have := (hh.lt _ i h1).2
        omega
    have hta : ∀ t ∈ ts, t.g < P.globals.size ∧ TabAt w els t := fun t ht => by
      refine ⟨hts t ht, ?_⟩
      obtain ⟨el, hget⟩ := isTab_get (tabsIn_mem hin t ht)
      obtain ⟨i, h1, h2, h3⟩ := hg t.g (hts t ht)
      obtain ⟨c, flo, fhi, k1, k2, k3, _⟩ := hh.rel _ _ i hget h1
      rw [h2] at k1
      rw [h3] at k2
      refine ⟨c, (flo, fhi), by rw [hels, k1], fun j x hj => ?_⟩
      obtain ⟨u, hu1, hu2⟩ := k2 j _ (by rw [u8s_get, hj]; rfl)
      rw [Nat.zero_add] at hu1
      rw [hu1, hu2]
    obtain ⟨s1, s2, s3⟩ := start_tabs (P := P) hG els ts hta [] (by simp)
    have hgo := (run_ok hf hi n).fn e.f e.args (heapT P.globals.size els ts []) (by rw [hrun]; rfl) _ w vs s1 s2 (refFrees_rel _ _ hb3 hv)
    rw [hrun] at hgo
    refine hgo.mono fun en w' hen => ?_
    obtain ⟨μ1, u, rfl, q1, q2, q3⟩ := hen
    have hold : ∀ r, r < w.heap.size → w'.heap[r]? = w.heap[r]? := (q3.below s3 s1).block
    obtain ⟨μ', hμ'⟩ : ∃ μ' : Mu, ∀ b, μ' b = if b < H.n then μ b else μ1 (b - H.n + P.globals.size) := ⟨_, fun _ => rfl⟩
    have hGn : P.globals.size ≤ H1.n := by
      have := q3.n
      rw [(heapT_n P.globals.size els ts [] fun t ht => hts t ht).1] at this
      simpa using this
    have hle : Le μ μ' := fun b i hb => by rw [hμ', if_pos (hh.lt b i hb).1]; exact hb
    have hren : ∀ b i, ¬ b < P.globals.size → μ1 b = some i → μ' (b - P.globals.size + H.n) = some i := fun b i hb h1 => by
      rw [hμ', if_neg (by omega)]
      have e1 : b - P.globals.size + H.n - H.n + P.globals.size = b := by omega
      rw [e1]; exact h1
    have hnew : ∀ b i, ¬ b < H.n → μ' b = some i → μ1 (b - H.n + P.globals.size) = some i ∧ b < H.n + (H1.n - P.globals.size) ∧ w.heap.size ≤ i.blk := fun b i hb h1 => by
      rw [hμ', if_neg hb] at h1
      have h2 := q2.lt _ i h1
      refine ⟨h1, by omega, ?_⟩
      have hm : muT P.globals.size (szW w) (([] : List (Img × List AV × Nat)).map (·.1)) (b - H.n + P.globals.size) = none := by
        unfold muT; rw [if_neg (by omega)]; rfl
      rcases (q3.new _ i hm h1).2 with h3 | ⟨c, o, j, h3, h4, _⟩
      · exact h3
      · have := s3 c o h3; rw [h4] at this; cases this
    have hget : ∀ b, (graft P.globals.size H.n H0 H (H1.n - P.globals.size)).get b = if b < H.n then H.get b else if b < H.n + (H1.n - P.globals.size) then (H0.get (P.globals.size + (b - H.n))).bind (renO P.globals.size H.n) else H.get b := graft_get _ _ _ _ _
    have hgn : ∀ b o, ¬ b < H.n → (graft P.globals.size H.n H0 H (H1.n - P.globals.size)).get b = some o → ∃ o1, H1.get (b - H.n + P.globals.size) = some o1 ∧ renO P.globals.size H.n o1 = some o := fun b o hb h1 => by
      rw [hget, if_neg hb] at h1
      split at h1
      · rename_i hlt
        have hj : b - H.n < H1.n - P.globals.size := by omega
        cases hx0 : H0.get (P.globals.size + (b - H.n)) with
        | none => rw [hx0] at h1; cases h1
        | some o0 =>
          have hq := beqO_ren P.globals.size H.n (subN_spec hb4 _ hj o0 hx0)
          rw [hx0, hq] at h1
          rw [Nat.add_comm] at h1
          cases hx : H1.get (b - H.n + P.globals.size) with
          | none => rw [hx] at h1; cases h1
          | some o1 => rw [hx] at h1; exact ⟨o1, rfl, h1⟩
      · rw [hh.bound b (by omega)] at h1; cases h1
    refine ⟨μ', u, rfl, renV_rel hren _ _ q1, ⟨fun b o i hb hi => ?_, fun b c i j hb hc hi hj hij => ?_, fun b i hi => ?_, fun b hb => ?_⟩, ?_⟩
    · by_cases h1 : b < H.n
      · rw [hget, if_pos h1] at hb
        rw [hμ', if_pos h1] at hi
        exact (hh.rel b o i hb hi).mono hle (hold _ (hh.lt b i hi).2)
      · obtain ⟨o1, h2, h3⟩ := hgn b o h1 hb
        exact renO_rel hren h3 (q2.rel _ o1 i h2 (hnew b i h1 hi).1)
    · obtain ⟨oc, hc, hro⟩ := hc
      by_cases h1 : b < H.n
      · rw [hget, if_pos h1] at hb
        rw [hμ', if_pos h1] at hi
        by_cases h2 : c < H.n
        · rw [hget, if_pos h2] at hc
          rw [hμ', if_pos h2] at hj
          exact hh.inj b c i j hb ⟨oc, hc, hro⟩ hi hj hij
        · have q := (hnew c j h2 hj).2.2
          have := (hh.lt b i hi).2
          omega
      · have q := (hnew b i h1 hi)
        by_cases h2 : c < H.n
        · rw [hμ', if_pos h2] at hj
          have := (hh.lt c j hj).2
          have := q.2.2
          omega
        · obtain ⟨o1, k1, k2⟩ := hgn c oc h2 hc
          have hb' : H1.get (b - H.n + P.globals.size) ≠ none := fun hx => by
            cases hy : (graft P.globals.size H.n H0 H (H1.n - P.globals.size)).get b with
            | none => exact hb hy
            | some ob => obtain ⟨o2, k3, _⟩ := hgn b ob h1 hy; rw [hx] at k3; cases k3
          have := q2.inj _ _ i j hb' ⟨o1, k1, by rw [← renO_ro k2]; exact hro⟩ q.1 (hnew c j h2 hj).1 hij
          omega
    · by_cases h1 : b < H.n
      · rw [hμ', if_pos h1] at hi
        exact ⟨by rw [graft_n]; omega, Nat.lt_of_lt_of_le (hh.lt b i hi).2 q3.size⟩
      · have q := hnew b i h1 hi
        exact ⟨by rw [graft_n]; exact q.2.1, (q2.lt _ i q.1).2⟩
    · rw [graft_n] at hb
      rw [hget, if_neg (by omega), if_neg (by omega)]
      exact hh.bound b (by omega)
    · refine ⟨hle, q3.size, by rw [graft_n]; omega, fun b hb hl => ?_, fun b hb _ => ?_, fun r hr _ => hold r hr, fun b i h1 h2 => ?_, fun b o i hb _ hi => ?_, q3.os, q3.out, q3.tape, q3.drawn⟩
      · rw [hget, if_pos hb] at hl; exact hl
      · rw [hget, if_pos hb]
      · have hb : ¬ b < H.n := fun hb => by rw [hμ', if_pos hb, h1] at h2; cases h2
        exact ⟨by omega, .inl (hnew b i hb h2).2.2⟩
      · refine ⟨?_, hold _ (hh.lt b i hi).2⟩
        rw [hget, if_pos (hh.lt b i hi).1]; exact hb
  · cases hb
end
end AEv

namespace AEv
open Go Go.RowKit

def heapE0 (G : Nat) (els : Nat → Nat) (ts : List Tab) (N : ErN) (el : Nat) (fz : Nat × Nat) : AHeap := (heapT G els ts []).set N.g (some (.raw (.cells #[.iface N.rt (.agg #[.pointer (some ⟨N.ng, N.te, none⟩)])] el fz)))
def tabIntrE (ts : List Tab) (N : ErN) (T : List Ent) (f : Nat) (args : List AV) (h : AHeap) : Option (AV × AHeap) :=
  match tabIntr T f args h with
  | some r => match tabsIn h ts && isErrT N.rt N.ng N.te (h.get N.g) with
    | true => some r
    | false => none
  | none => none
def entE (P : Program) (els : Nat → Nat) (ts : List Tab) (N : ErN) (el : Nat) (fz : Nat × Nat) (intr : Nat → List AV → AHeap → Option (AV × AHeap)) (n : Nat) (e : Ent) : Bool :=
  match callN P intr n (.fn e.f) e.args (heapE0 P.globals.size els ts N el fz) with
  | .ret v _ => AV.beq v e.v && refFree e.v && refFrees e.args
  | _ => false
def EntE (P : Program) (ts : List Tab) (N : ErN) (e : Ent) : Prop := ∃ (intr : Nat → List AV → AHeap → Option (AV × AHeap)) (n : Nat), IntrOK P intr ∧ ∀ els el fz, entE P els ts N el fz intr n e = true
section
variable {P : Program}
theorem tabE_ok (hf : Fit P) {ts : List Tab} (hts : ∀ t ∈ ts, t.g < P.globals.size) {N : ErN} (hN : N.g < P.globals.size) {T : List Ent} (hT : ∀ e ∈ T, EntE P ts N e) : IntrOK P (tabIntrE ts N T) := by
  intro f args H v H' hx μ w vs hh hg hv
  unfold tabIntrE at hx
  split at hx
  · rename_i r hr
    split at hx
    · rename_i hin0
      obtain ⟨hin, her⟩ := (Bool.and_eq_true _ _).mp hin0
      obtain ⟨el0, fz0, hget0⟩ := isErrT_eq her
      cases hx
      obtain ⟨rfl, e, he, rfl, rfl, rfl⟩ := tab_mem T f args H v H' hr
      obtain ⟨intr, n, hi, hb0⟩ := hT e he
      obtain ⟨els, hels⟩ : ∃ els : Nat → Nat, ∀ g, els g = match w.heap[g]? with | some (.cells _ el _) => el | _ => 0 := ⟨_, fun _ => rfl⟩
      have hb := hb0 els el0 fz0
      unfold entE at hb
      split at hb
      · rename_i v1 H1 hrun
        simp only [Bool.and_eq_true] at hb
        obtain ⟨⟨hb1, hb2⟩, hb3⟩ := hb
        have hv1 := beq_eq _ _ hb1
        subst hv1
        have hG : P.globals.size ≤ w.heap.size := by
          cases hsz : P.globals.size with
          | zero => exact Nat.zero_le _
          | succ g =>
            obtain ⟨i, h1, h2, h3⟩ := hg g (by omega)
            have := (hh.lt _ i h1).2
            omega
        have hta : ∀ t ∈ ts, t.g < P.globals.size ∧ TabAt w els t := fun t ht => by
          refine ⟨hts t ht, ?_⟩
          obtain ⟨el, hget⟩ := isTab_get (tabsIn_mem hin t ht)
          obtain ⟨i, h1, h2, h3⟩ := hg t.g (hts t ht)
          obtain ⟨c, flo, fhi, k1, k2, k3, _⟩ := hh.rel _ _ i hget h1
          rw [h2] at k1
          rw [h3] at k2
          refine ⟨c, (flo, fhi), by rw [hels, k1], fun j x hj => ?_⟩
          obtain ⟨u, hu1, hu2⟩ := k2 j _ (by rw [u8s_get, hj]; rfl)
          rw [Nat.zero_add] at hu1
          rw [hu1, hu2]
        obtain ⟨s10, s2, s30⟩ := start_tabs (P := P) hG els ts hta [] (by simp)
        obtain ⟨i0, p1, p2, p3⟩ := hg N.g hN
        obtain ⟨_, hW0⟩ := hh.rel _ _ i0 hget0 p1
        obtain ⟨i1, r1, r2, r3⟩ := s2 N.g hN
        obtain ⟨s1, s3⟩ := s10.setRaw s30 r1 r3 (by rw [r2]; rw [p2] at hW0; exact hW0)
        have hgo := (run_ok hf hi n).fn e.f e.args (heapE0 P.globals.size els ts N el0 fz0) (by rw [hrun]; rfl) _ w vs s1 s2 (refFrees_rel _ _ hb3 hv)
        rw [hrun] at hgo
        refine hgo.mono fun en w' hen => ?_
        obtain ⟨μ', u, rfl, q1, q2, q3⟩ := hen
        have hold : ∀ r, r < w.heap.size → w'.heap[r]? = w.heap[r]? := (q3.below s3 s1).block
        refine ⟨μ, u, rfl, refFree_rel _ _ hb2 q1, ⟨fun b o i hb hi => (hh.rel b o i hb hi).mono (Le.refl μ) (hold _ (hh.lt b i hi).2), hh.inj, fun b i hi => ⟨(hh.lt b i hi).1, Nat.lt_of_lt_of_le (hh.lt b i hi).2 q3.size⟩, hh.bound⟩, ?_⟩
        exact ⟨Le.refl μ, q3.size, Nat.le_refl _, fun _ _ hl => hl, fun _ _ _ => rfl, fun r hr _ => hold r hr, (fun b i h1 h2 => by rw [h1] at h2; cases h2), fun b o i hb _ hi => ⟨hb, hold _ (hh.lt b i hi).2⟩, q3.os, q3.out, q3.tape, q3.drawn⟩
      · cases hb
    · cases hx
  · cases hx
end
end AEv

namespace AEv
open Go Go.RowKit

def isCM : AObj → Bool
  | .cells .. => true
  | .map .. => true
  | _ => false
/-- Every one of these blocks is there, just so. -/
def agreeB (h : AHeap) : List (Nat × AObj) → Bool
  | [] => true
  | (b, o) :: l => match isCM o with
    | true => match beqO (some o) (h.get b) with
      | true => agreeB h l
      | false => false
    | false => false
def putL (h : AHeap) : List (Nat × AObj) → AHeap
  | [] => h
  | (b, o) :: l => (putL h l).set b (some o)
theorem putL_n (h : AHeap) : ∀ l, (putL h l).n = h.n
  | [] => rfl
  | (b, o) :: l => putL_n h l
theorem putL_get (h : AHeap) : ∀ (l : List (Nat × AObj)) (b : Nat), (∃ o, (b, o) ∈ l ∧ (putL h l).get b = some o) ∨ ((∀ o, (b, o) ∉ l) ∧ (putL h l).get b = h.get b)
  | [], b => .inr ⟨fun o hm => (by cases hm), rfl⟩
  | (c, o) :: l, b => by
    show (∃ o', (b, o') ∈ (c, o) :: l ∧ ((putL h l).set c (some o)).get b = some o') ∨ ((∀ o', (b, o') ∉ (c, o) :: l) ∧ ((putL h l).set c (some o)).get b = h.get b)
    rw [AHeap.get_set]
    by_cases e : b = c
    · subst e; exact .inl ⟨o, by simp, by rw [if_pos rfl]⟩
    · rw [if_neg e]
      rcases putL_get h l b with ⟨o', h1, h2⟩ | ⟨h1, h2⟩
      · exact .inl ⟨o', List.mem_cons_of_mem _ h1, h2⟩
      · refine .inr ⟨fun o' hm => ?_, h2⟩
        rcases List.mem_cons.1 hm with q | hm
        · cases q; exact e rfl
        · exact h1 o' hm
def belowB (n : Nat) : List (Nat × AObj) → Bool
  | [] => true
  | (b, _) :: m => match Nat.blt b n with
    | true => belowB n m
    | false => false
theorem belowB_mem {n : Nat} : ∀ {m : List (Nat × AObj)}, belowB n m = true → ∀ b o, (b, o) ∈ m → b < n
  | [], _, _, _, hm => by cases hm
  | (c, o) :: m, h, b, x, hm => by
    unfold belowB at h
    split at h
    · rename_i h1
      rcases List.mem_cons.1 hm with e | hm
      · cases e; rw [Nat.blt_eq] at h1; exact h1
      · exact belowB_mem h b x hm
    · cases h
section
variable {P : Program}
theorem mkH_put (n : Nat) : ∀ l, mkH n l = putL (emptyHeap n) l
  | [] => rfl
  | (b, o) :: l => by show (mkH n l).set b (some o) = (putL (emptyHeap n) l).set b (some o); rw [mkH_put n l]
theorem emptyHeap_get (n b : Nat) : (emptyHeap n).get b = none := by cases b <;> rfl
end
end AEv

namespace AEv
open Go Go.RowKit
section
variable {P : Program}
theorem refFrees_rels {μ μ' : Mu} : ∀ {cs : List AV} {c : Array Value} {base : Nat}, refFrees cs = true → CellsRel μ cs c base → CellsRel μ' cs c base := fun {cs c base} h hc j v hj => by
  obtain ⟨u, h1, h2⟩ := hc j v hj
  refine ⟨u, h1, ?_⟩
  have hall : ∀ (l : List AV) (k : Nat), refFrees l = true → l[k]? = some v → refFree v = true := fun l => by
    induction l with
    | nil => intro k _ hk; simp at hk
    | cons a l ih =>
      intro k hl hk
      simp only [refFrees, Bool.and_eq_true] at hl
      cases k with
      | zero => simp at hk; subst hk; exact hl.1
      | succ k => exact ih k hl.2 (by simpa using hk)
  exact refFree_rel _ _ (hall cs j h hj) h2
theorem one_ok (hf : Fit P) {ts : List Tab} (hts : ∀ t ∈ ts, t.g < P.globals.size) {intr : Nat → List AV → AHeap → Option (AV × AHeap)} (hi : IntrOK P intr) {n f : Nat} {args : List AV} (hargs : refFrees args = true) (v : Nat → AV) {cs : List AV} {el : TypeId} {k : BK} {lo up : Nat} (hcs : refFrees cs = true)
    (hvr : ∀ (μ1 μ' : Mu) (c d : Nat) (u : Value), μ' d = μ1 c → VRel μ1 (v c) u → VRel μ' (v d) u)
    (hrun : ∀ els, ∃ c H1, callN P intr n (.fn f) args (heapT P.globals.size els ts []) = .ret (v c) H1 ∧ H1.get c = some (.cells cs el k lo up) ∧ P.globals.size ≤ c)
    {H : AHeap} (hin : tabsIn H ts = true) {μ : Mu} {w : World} {vs : List Value} (hh : HRel μ H w) (hg : GRel P μ) (hv : VRels μ args vs) :
    FnGoes P f vs w (Ends μ H w (.ret (v H.n) (H.push (.cells cs el k lo up)))) := by
  obtain ⟨els, hels⟩ : ∃ els : Nat → Nat, ∀ g, els g = match w.heap[g]? with | some (.cells _ el _) => el | _ => 0 := ⟨_, fun _ => rfl⟩
  obtain ⟨c0, H1, hr, hc0, hcG⟩ := hrun els
  have hG : P.globals.size ≤ w.heap.size := by
    cases hsz : P.globals.size with
    | zero => exact Nat.zero_le _
    | succ g =>
      obtain ⟨i, h1, h2, h3⟩ := hg g (by omega)
      have := (hh.lt _ i h1).2
      omega
  have hta : ∀ t ∈ ts, t.g < P.globals.size ∧ TabAt w els t := fun t ht => by
    refine ⟨hts t ht, ?_⟩
    obtain ⟨el, hget⟩ := isTab_get (tabsIn_mem hin t ht)
    obtain ⟨i, h1, h2, h3⟩ := hg t.g (hts t ht)
    obtain ⟨c, flo, fhi, k1, k2, k3, _⟩ := hh.rel _ _ i hget h1
    rw [h2] at k1
    rw [h3] at k2
    refine ⟨c, (flo, fhi), by rw [hels, k1], fun j x hj => ?_⟩
    obtain ⟨u, hu1, hu2⟩ := k2 j _ (by rw [u8s_get, hj]; rfl)
    rw [Nat.zero_add] at hu1
    rw [hu1, hu2]
  obtain ⟨s1, s2, s3⟩ := start_tabs (P := P) hG els ts hta [] (by simp)
  have hgo := (run_ok hf hi n).fn f args (heapT P.globals.size els ts []) (by rw [hr]; rfl) _ w vs s1 s2 (refFrees_rel _ _ hargs hv)
  rw [hr] at hgo
  refine hgo.mono fun en w' hen => ?_
  obtain ⟨μ1, u, rfl, q1, q2, q3⟩ := hen
  have hold : ∀ r, r < w.heap.size → w'.heap[r]? = w.heap[r]? := (q3.below s3 s1).block
  obtain ⟨μ', hμ'⟩ : ∃ μ' : Mu, ∀ b, μ' b = if b < H.n then μ b else if b = H.n then μ1 c0 else none := ⟨_, fun _ => rfl⟩
  have hle : Le μ μ' := fun b i hb => by rw [hμ', if_pos (hh.lt b i hb).1]; exact hb
  have hnew : ∀ b i, ¬ b < H.n → μ' b = some i → b = H.n ∧ μ1 c0 = some i ∧ w.heap.size ≤ i.blk := fun b i hb h1 => by
    rw [hμ', if_neg hb] at h1
    by_cases hbn : b = H.n
    · rw [if_pos hbn] at h1
      refine ⟨hbn, h1, ?_⟩
      have hm : muT P.globals.size (szW w) (([] : List (Img × List AV × Nat)).map (·.1)) c0 = none := by
        unfold muT; rw [if_neg (by omega)]; rfl
      rcases (q3.new _ i hm h1).2 with h3 | ⟨c, o, j, h3, h4, _⟩
      · exact h3
      · have := s3 c o h3; rw [h4] at this; cases this
    · rw [if_neg hbn] at h1; cases h1
  have hget : ∀ b, (H.push (.cells cs el k lo up)).get b = if b = H.n then some (.cells cs el k lo up) else H.get b := fun b => by
    by_cases e : b = H.n
    · rw [if_pos e, e]; exact HT.get_set _ _ _ _ _ (Nat.lt_succ_self _) |>.trans (if_pos rfl)
    · rw [if_neg e]; exact HT.get_set _ _ _ _ _ (Nat.lt_succ_self _) |>.trans (if_neg e)
  have hgn : (H.push (.cells cs el k lo up)).n = H.n + 1 := rfl
  have hne : ∀ b, b < H.n → ¬ b = H.n := fun b h => by omega
  refine ⟨μ', u, rfl, hvr μ1 μ' c0 H.n u (by rw [hμ', if_neg (by omega), if_pos rfl]) q1, ⟨fun b o i hb hi' => ?_, fun b c i j hb hc hi' hj hij => ?_, fun b i hi' => ?_, fun b hb => ?_⟩, ?_⟩
  · by_cases h1 : b < H.n
    · rw [hget, if_neg (hne b h1)] at hb
      rw [hμ', if_pos h1] at hi'
      exact (hh.rel b o i hb hi').mono hle (hold _ (hh.lt b i hi').2)
    · obtain ⟨rfl, h2, _⟩ := hnew b i h1 hi'
      rw [hget, if_pos rfl] at hb
      cases hb
      obtain ⟨c, flo, fhi, k1, k2, k3⟩ := q2.rel c0 _ i hc0 h2
      exact ⟨c, flo, fhi, k1, refFrees_rels hcs k2, k3⟩
  · obtain ⟨oc, hc, hro⟩ := hc
    by_cases h1 : b < H.n
    · rw [hget, if_neg (hne b h1)] at hb
      rw [hμ', if_pos h1] at hi'
      by_cases h2 : c < H.n
      · rw [hget, if_neg (hne c h2)] at hc
        rw [hμ', if_pos h2] at hj
        exact hh.inj b c i j hb ⟨oc, hc, hro⟩ hi' hj hij
      · have q := (hnew c j h2 hj).2.2
        have := (hh.lt b i hi').2
        omega
    · have q := hnew b i h1 hi'
      by_cases h2 : c < H.n
      · rw [hμ', if_pos h2] at hj
        have := (hh.lt c j hj).2
        have := q.2.2
        omega
      · have q' := hnew c j h2 hj
        rw [q.1, q'.1]
  · by_cases h1 : b < H.n
    · rw [hμ', if_pos h1] at hi'
      exact ⟨by rw [hgn]; omega, Nat.lt_of_lt_of_le (hh.lt b i hi').2 q3.size⟩
    · have q := hnew b i h1 hi'
      exact ⟨by rw [hgn]; omega, (q2.lt _ i q.2.1).2⟩
  · rw [hgn] at hb
    rw [hget, if_neg (by omega)]
    exact hh.bound b (by omega)
  · refine ⟨hle, q3.size, by rw [hgn]; omega, fun b hb hl => ?_, fun b hb _ => ?_, fun r hr _ => hold r hr, fun b i h1 h2 => ?_, fun b o i hb _ hi' => ?_, q3.os, q3.out, q3.tape, q3.drawn⟩
    · rw [hget, if_neg (hne b hb)] at hl; exact hl
    · rw [hget, if_neg (hne b hb)]
    · have hb : ¬ b < H.n := fun hb => by rw [hμ', if_pos hb, h1] at h2; cases h2
      exact ⟨by omega, .inl (hnew b i hb h2).2.2⟩
    · refine ⟨?_, hold _ (hh.lt b i hi').2⟩
      rw [hget, if_neg (hne b (hh.lt b i hi').1)]; exact hb
end
end AEv

namespace AEv
open Go Go.RowKit

structure EntL where
  f : Nat
  args : List AV
  v : AV
  n : Nat
  l : List (Nat × AObj)
def EntL.toR (e : EntL) : EntR := ⟨e.f, e.args, .ret e.v (mkH e.n e.l)⟩
def putR (G n : Nat) (h : AHeap) : List (Nat × AObj) → AHeap
  | [] => h
  | (b, o) :: l => (putR G n h l).set (b - G + n) (renO G n o)
theorem putR_get (G n n0 : Nat) (h : AHeap) : ∀ (l : List (Nat × AObj)), (∀ b o, (b, o) ∈ l → G ≤ b) → ∀ c, (putR G n h l).get c = if c < n then h.get c else match (mkH n0 l).get (G + (c - n)) with
    | some o => renO G n o
    | none => h.get c
  | [], _, c => by
    show h.get c = _
    by_cases hc : c < n
    · rw [if_pos hc]
    · rw [if_neg hc]
      have : (mkH n0 []).get (G + (c - n)) = none := emptyHeap_get n0 _
      rw [this]
  | (b, o) :: l, hl, c => by
    have hb := hl b o (by simp)
    have ih := putR_get G n n0 h l (fun b o hm => hl b o (by simp [hm])) c
    show ((putR G n h l).set (b - G + n) (renO G n o)).get c = _
    have e2 : (mkH n0 ((b, o) :: l)).get (G + (c - n)) = if G + (c - n) = b then some o else (mkH n0 l).get (G + (c - n)) := AHeap.get_set _ _ _ _
    rw [AHeap.get_set, e2, ih]
    by_cases hc : c < n
    · rw [if_neg (by omega), if_pos hc, if_pos hc]
    · by_cases hq : c = b - G + n
      · rw [if_pos hq, if_neg hc, if_pos (by omega)]
      · have hx : ¬ G + (c - n) = b := by omega
        rw [if_neg hq, if_neg hx]
def fromB (G : Nat) : List (Nat × AObj) → Bool
  | [] => true
  | (b, _) :: m => match Nat.ble G b with
    | true => fromB G m
    | false => false
theorem fromB_mem {G : Nat} : ∀ {m : List (Nat × AObj)}, fromB G m = true → ∀ b o, (b, o) ∈ m → G ≤ b
  | [], _, _, _, hm => by cases hm
  | (c, o) :: m, h, b, x, hm => by
    unfold fromB at h
    split at h
    · rename_i h1
      rcases List.mem_cons.1 hm with e | hm
      · cases e; exact Nat.le_of_ble_eq_true h1
      · exact fromB_mem h b x hm
    · cases h
def intrL (G : Nat) (ts : List Tab) : List EntL → Nat → List AV → AHeap → Option (AV × AHeap)
  | [], _, _, _ => none
  | e :: T, f, args, h => match Nat.beq f e.f with
    | true => match AV.beqs args e.args with
      | true => match tabsIn h ts with
        | true => match fromB G e.l && belowB e.n e.l with
          | true => some (renV G h.n e.v, ⟨(putR G h.n h e.l).t, h.n + (e.n - G)⟩)
          | false => none
        | false => none
      | false => intrL G ts T f args h
    | false => intrL G ts T f args h
theorem intrL_mem {G : Nat} {ts : List Tab} : ∀ {T : List EntL} {f : Nat} {args : List AV} {h : AHeap} {v : AV} {h' : AHeap}, intrL G ts T f args h = some (v, h') → tabsIn h ts = true ∧ ∃ e ∈ T, e.f = f ∧ e.args = args ∧ AV.beqs args e.args = true ∧ (fromB G e.l && belowB e.n e.l) = true ∧ v = renV G h.n e.v ∧ h' = ⟨(putR G h.n h e.l).t, h.n + (e.n - G)⟩
  | [], _, _, _, _, _, hx => by cases hx
  | e :: T, f, args, h, v, h', hx => by
    simp only [intrL] at hx
    have rest : intrL G ts T f args h = some (v, h') → tabsIn h ts = true ∧ ∃ e' ∈ e :: T, e'.f = f ∧ e'.args = args ∧ AV.beqs args e'.args = true ∧ (fromB G e'.l && belowB e'.n e'.l) = true ∧ v = renV G h.n e'.v ∧ h' = ⟨(putR G h.n h e'.l).t, h.n + (e'.n - G)⟩ := fun hx => by
      obtain ⟨h0, e', h1, h2⟩ := intrL_mem hx
      exact ⟨h0, e', List.mem_cons_of_mem _ h1, h2⟩
    split at hx
    · rename_i hf
      split at hx
      · rename_i ha
        split at hx
        · rename_i ht
          split at hx
          · rename_i hl
            cases hx
            exact ⟨ht, e, by simp, (Nat.eq_of_beq_eq_true hf).symm, (beqs_eq _ _ ha).symm, ha, hl, rfl, rfl⟩
          · cases hx
        · cases hx
      · exact rest hx
    · exact rest hx
theorem HRel.same {μ : Mu} {H H' : AHeap} {w : World} (h : HRel μ H w) (hn : H'.n = H.n) (hg : ∀ b, H'.get b = H.get b) : HRel μ H' w :=
  ⟨fun b o i h1 h2 => h.rel b o i (by rw [← hg]; exact h1) h2, fun b c i j h1 h2 => h.inj b c i j (by rw [← hg]; exact h1) (by rw [← hg]; exact h2), fun b i h1 => by rw [hn]; exact h.lt b i h1, fun b hb => by rw [hg]; exact h.bound b (by omega)⟩
theorem Adv.same {μ μ' : Mu} {H H1 H' : AHeap} {w w' : World} (h : Adv μ H w μ' H1 w') (hn : H'.n = H1.n) (hg : ∀ b, H'.get b = H1.get b) : Adv μ H w μ' H' w' :=
  ⟨h.le, h.size, by rw [hn]; exact h.n, fun b hb hl => h.live b hb (by rw [← hg]; exact hl), fun b hb hm => by rw [hg]; exact h.idle b hb hm, h.old, h.new, fun b o i h1 h2 h3 => by rw [hg]; exact h.ro b o i h1 h2 h3, h.os, h.out, h.tape, h.drawn⟩
section
variable {P : Program}
theorem intrL_ok (hf : Fit P) {ts : List Tab} (hts : ∀ t ∈ ts, t.g < P.globals.size) {T : List EntL} (hT : ∀ e ∈ T, EntSOK P ts e.toR) : IntrOK P (intrL P.globals.size ts T) := by
  intro f args H v H' hx μ w vs hh hg hv
  obtain ⟨hin, e, he, rfl, rfl, hbs, hl, rfl, rfl⟩ := intrL_mem hx
  rw [Bool.and_eq_true] at hl
  have hS : IntrOK P (intrR P.globals.size ts [e.toR]) := intrS_ok hf hts fun x hx => by obtain rfl := List.mem_singleton.1 hx; exact hT e he
  have hn0 : (mkH e.n e.l).n = e.n := by rw [mkH_put, putL_n]; rfl
  have hi : intrR P.globals.size ts [e.toR] e.f e.args H = some (renV P.globals.size H.n e.v, graft P.globals.size H.n (mkH e.n e.l) H (e.n - P.globals.size)) := by
    have b1 : Nat.beq e.f e.toR.f = true := Nat.beq_refl _
    have b2 : AV.beqs e.args e.toR.args = true := hbs
    have b3 : e.toR.r = .ret e.v (mkH e.n e.l) := rfl
    simp only [intrR, b1, b2, hin, b3, hn0]
  have hgo := hS e.f e.args H _ _ hi μ w vs hh hg hv
  refine hgo.mono fun en w' hen => ?_
  obtain ⟨μ1, u, rfl, q1, q2, q3⟩ := hen
  have hgn : (graft P.globals.size H.n (mkH e.n e.l) H (e.n - P.globals.size)).n = H.n + (e.n - P.globals.size) := graft_n _ _ _ _ _
  have hsame : ∀ b, (⟨(putR P.globals.size H.n H e.l).t, H.n + (e.n - P.globals.size)⟩ : AHeap).get b = (graft P.globals.size H.n (mkH e.n e.l) H (e.n - P.globals.size)).get b := fun b => by
    show (putR P.globals.size H.n H e.l).get b = _
    rw [putR_get P.globals.size H.n e.n H e.l (fromB_mem hl.1) b, graft_get]
    by_cases h1 : b < H.n
    · rw [if_pos h1, if_pos h1]
    · rw [if_neg h1, if_neg h1]
      by_cases h2 : b < H.n + (e.n - P.globals.size)
      · rw [if_pos h2]
        cases hx : (mkH e.n e.l).get (P.globals.size + (b - H.n)) with
        | none => exact hh.bound b (by omega)
        | some o => rfl
      · rw [if_neg h2]
        cases hx : (mkH e.n e.l).get (P.globals.size + (b - H.n)) with
        | none => rfl
        | some o =>
          exfalso
          rw [mkH_put] at hx
          rcases putL_get (emptyHeap e.n) e.l (P.globals.size + (b - H.n)) with ⟨o', k1, k2⟩ | ⟨k1, k2⟩
          · have := belowB_mem hl.2 _ _ k1
            omega
          · rw [hx, emptyHeap_get] at k2; cases k2
  exact ⟨μ1, u, rfl, q1, q2.same (by rw [hgn]) hsame, q3.same (by rw [hgn]) hsame⟩
end
end AEv
