/-
  PROVED HERE: contracts of functions (Da). No condition beside each statement's own.
-/
import Derived.Test.YtlcnhahfgpnanaaGreatDoorAed
import Derived.OpenShut
import Derived.ChangeSame
import Derived.Lay
import Derived.Laws.LoneSync
set_option linter.unusedVariables false
set_option linter.unusedSimpArgs false
namespace AEv
open Go Go.RowKit

/-- A table of bytes: the variable's number, the bytes. -/
structure Tab where
  g : Nat
  xs : List Nat
def u8s : List Nat → List AV
  | [] => []
  | x :: l => .int .u8 (Int.ofNat x) :: u8s l
def Tab.obj (els : Nat → Nat) (t : Tab) : AObj := .cells (u8s t.xs) (els t.g) .ro 0 0
def eqU8 : List AV → List Nat → Bool
  | [], [] => true
  | .int .u8 (.ofNat n) :: l, x :: xs => match Nat.beq n x with
    | true => eqU8 l xs
    | false => false
  | _, _ => false
theorem eqU8_eq : ∀ (l : List AV) (xs : List Nat), eqU8 l xs = true → l = u8s xs
  | [], [], _ => rfl
  | .int .u8 (.ofNat n) :: l, x :: xs, h => by
    simp only [eqU8] at h
    split at h
    · rename_i hn
      rw [eqU8_eq l xs h, Nat.eq_of_beq_eq_true hn]; rfl
    · cases h
theorem eqU8_self : ∀ xs : List Nat, eqU8 (u8s xs) xs = true
  | [] => rfl
  | x :: xs => by
    show (match Nat.beq x x with | true => eqU8 (u8s xs) xs | false => false) = true
    rw [show Nat.beq x x = true from Nat.beq_refl x]
    exact eqU8_self xs
def isTab (h : AHeap) (t : Tab) : Bool := match h.get t.g with
  | some (.cells cs _ .ro 0 0) => eqU8 cs t.xs
  | _ => false
def tabsIn (h : AHeap) : List Tab → Bool
  | [] => true
  | t :: ts => match isTab h t with
    | true => tabsIn h ts
    | false => false
theorem isTab_get {h : AHeap} {t : Tab} (hi : isTab h t = true) : ∃ el, h.get t.g = some (.cells (u8s t.xs) el .ro 0 0) := by
  unfold isTab at hi
  split at hi
  · rename_i cs el hg
    exact ⟨el, by rw [hg, eqU8_eq _ _ hi]⟩
  · cases hi
theorem isTab_of {h : AHeap} {t : Tab} {el : Nat} (hg : h.get t.g = some (.cells (u8s t.xs) el .ro 0 0)) : isTab h t = true := by
  unfold isTab
  rw [hg]
  exact eqU8_self _
theorem tabsIn_mem : ∀ {ts : List Tab} {h : AHeap}, tabsIn h ts = true → ∀ t ∈ ts, isTab h t = true
  | [], h, _, t, ht => by cases ht
  | x :: ts, h, hi, t, ht => by
    simp only [tabsIn] at hi
    split at hi
    · rename_i h1
      rcases List.mem_cons.1 ht with rfl | ht
      · exact h1
      · exact tabsIn_mem hi t ht
    · cases hi
theorem tabsIn_of : ∀ {ts : List Tab} {h : AHeap}, (∀ t ∈ ts, isTab h t = true) → tabsIn h ts = true
  | [], h, _ => rfl
  | x :: ts, h, hi => by
    simp only [tabsIn, hi x (by simp)]
    exact tabsIn_of fun t ht => hi t (by simp [ht])

def setRo (els : Nat → Nat) (h : AHeap) (t : Tab) : AHeap := h.set t.g (some (t.obj els))
def heapT (G : Nat) (els : Nat → Nat) (ts : List Tab) (rows : List (List AV × Nat)) : AHeap := rows.foldl pushRo (ts.foldl (setRo els) (emptyHeap G))
def muT (G : Nat) (sz : Nat → Nat) (is : List Img) : Mu := fun b => if b < G then some ⟨b, 0, sz b⟩ else is[b - G]?
theorem foldSet (els : Nat → Nat) : ∀ (ts : List Tab) (h : AHeap), (ts.foldl (setRo els) h).n = h.n ∧ ∀ b, (ts.foldl (setRo els) h).get b = h.get b ∨ ∃ t ∈ ts, t.g = b ∧ (ts.foldl (setRo els) h).get b = some (t.obj els)
  | [], h => ⟨rfl, fun b => .inl rfl⟩
  | t :: ts, h => by
    obtain ⟨q1, q2⟩ := foldSet els ts (setRo els h t)
    have hg : ∀ b, (setRo els h t).get b = if b = t.g then some (t.obj els) else h.get b := fun b => AHeap.get_set _ _ _ _
    refine ⟨q1, fun b => ?_⟩
    rw [List.foldl_cons]
    rcases q2 b with q | ⟨t', h1, h2, h3⟩
    · rw [q, hg]
      by_cases e : b = t.g
      · rw [if_pos e]; exact .inr ⟨t, by simp, e.symm, rfl⟩
      · rw [if_neg e]; exact .inl rfl
    · exact .inr ⟨t', by simp [h1], h2, h3⟩
theorem foldSet_at (els : Nat → Nat) : ∀ (ts : List Tab) (h : AHeap), (ts.map (·.g)).Nodup → ∀ t ∈ ts, (ts.foldl (setRo els) h).get t.g = some (t.obj els)
  | [], h, _, t, ht => by cases ht
  | x :: ts, h, hn, t, ht => by
    rw [List.map_cons, List.nodup_cons] at hn
    rw [List.foldl_cons]
    rcases List.mem_cons.1 ht with rfl | ht
    · rcases (foldSet els ts (setRo els h t)).2 t.g with q | ⟨t', h1, h2, h3⟩
      · rw [q]
        show (h.set t.g _).get t.g = _
        rw [AHeap.get_set, if_pos rfl]
      · exact absurd (List.mem_map.2 ⟨t', h1, h2⟩) hn.1
    · exact foldSet_at els ts _ hn.2 t ht
theorem heapT_n (G : Nat) (els : Nat → Nat) (ts : List Tab) (rows : List (List AV × Nat)) (hts : ∀ t ∈ ts, t.g < G) : (heapT G els ts rows).n = G + rows.length ∧ ∀ b, (heapT G els ts rows).get b = if b < G then (ts.foldl (setRo els) (emptyHeap G)).get b else (rows[b - G]?).map fun r => .cells r.1 r.2 .ro 0 0 := by
  obtain ⟨q1, q2⟩ := foldSet els ts (emptyHeap G)
  have hn : (ts.foldl (setRo els) (emptyHeap G)).n = G := q1
  obtain ⟨r1, r2⟩ := foldRo rows (ts.foldl (setRo els) (emptyHeap G)) fun b hb => by
    rw [hn] at hb
    rcases q2 b with q | ⟨t, h1, h2, _⟩
    · rw [q]; rfl
    · have := hts t h1; omega
  rw [hn] at r1 r2
  exact ⟨r1, r2⟩
theorem heapT_tab {G : Nat} {els : Nat → Nat} {ts : List Tab} {rows : List (List AV × Nat)} (hts : ∀ t ∈ ts, t.g < G) (hn : (ts.map (·.g)).Nodup) {t : Tab} (ht : t ∈ ts) : (heapT G els ts rows).get t.g = some (t.obj els) := by
  rw [(heapT_n G els ts rows hts).2, if_pos (hts t ht)]
  exact foldSet_at els ts _ hn t ht
theorem heapT_in {G : Nat} {els : Nat → Nat} {ts : List Tab} {rows : List (List AV × Nat)} (hts : ∀ t ∈ ts, t.g < G) (hn : (ts.map (·.g)).Nodup) : tabsIn (heapT G els ts rows) ts = true :=
  tabsIn_of fun t ht => isTab_of (heapT_tab hts hn ht)
/-- A table lies in the world. -/
def TabAt (W : World) (els : Nat → Nat) (t : Tab) : Prop := ∃ c fz, W.heap[t.g]? = some (.cells c (els t.g) fz) ∧ ∀ (j : Nat) (x : Nat), t.xs[j]? = some x → c[j]? = some (.int .u8 (Int.ofNat x))
theorem u8s_get : ∀ (xs : List Nat) (j : Nat), (u8s xs)[j]? = (xs[j]?).map fun x => .int .u8 (Int.ofNat x)
  | [], j => by simp [u8s]
  | x :: xs, 0 => by simp [u8s]
  | x :: xs, j + 1 => by simp [u8s, u8s_get xs j]
def szW (W : World) (g : Nat) : Nat := match W.heap[g]? with
  | some (.cells c _ _) => c.size
  | _ => 0
theorem start_tabs {P : Program} {W : World} (hW : P.globals.size ≤ W.heap.size) (els : Nat → Nat) (ts : List Tab) (hts : ∀ t ∈ ts, t.g < P.globals.size ∧ TabAt W els t) (l : List (Img × List AV × Nat)) (hl : ∀ x ∈ l, RowW W x.1 x.2.1 x.2.2) :
    HRel (muT P.globals.size (szW W) (l.map (·.1))) (heapT P.globals.size els ts (l.map (·.2))) W ∧ GRel P (muT P.globals.size (szW W) (l.map (·.1))) ∧ Roed (heapT P.globals.size els ts (l.map (·.2))) := by
  obtain ⟨hn, hg⟩ := heapT_n P.globals.size els ts (l.map (·.2)) fun t ht => (hts t ht).1
  have ro : ∀ b o, (heapT P.globals.size els ts (l.map (·.2))).get b = some o → (∃ x, l[b - P.globals.size]? = some x ∧ ¬ b < P.globals.size ∧ o = .cells x.2.1 x.2.2 .ro 0 0) ∨ (b < P.globals.size ∧ ∃ t ∈ ts, t.g = b ∧ o = t.obj els) := by
    intro b o h
    rw [hg] at h
    split at h
    · rename_i hb
      rcases (foldSet els ts (emptyHeap P.globals.size)).2 b with q | ⟨t, h1, h2, h3⟩
      · rw [q] at h; cases h
      · rw [h3] at h; cases h; exact .inr ⟨hb, t, h1, h2, rfl⟩
    · rename_i hb
      rw [List.getElem?_map] at h
      cases hx : l[b - P.globals.size]? with
      | none => rw [hx] at h; cases h
      | some x => rw [hx] at h; cases h; exact .inl ⟨x, rfl, hb, rfl⟩
  refine ⟨⟨fun b o j h hj => ?_, fun b c' j k h1 h2 => ?_, fun b j h => ?_, fun b h => ?_⟩, fun g hg => ⟨⟨g, 0, szW W g⟩, by simp [muT, hg], rfl, rfl⟩, fun b o h => ?_⟩
  · rcases ro b o h with ⟨x, hx, hb, rfl⟩ | ⟨hb, t, ht, rfl, rfl⟩
    · unfold muT at hj
      rw [if_neg hb, List.getElem?_map, hx] at hj
      cases hj
      obtain ⟨c, fz, q1, q2, q3⟩ := hl x (List.mem_of_getElem? hx)
      exact ⟨c, fz.1, fz.2, q1, q2 _, q3, trivial⟩
    · unfold muT at hj
      rw [if_pos hb] at hj
      cases hj
      obtain ⟨_, c, fz, q1, q2⟩ := hts t ht
      refine ⟨c, fz.1, fz.2, q1, fun j v hv => ?_, by show 0 + szW W t.g = c.size; unfold szW; rw [q1]; simp, trivial⟩
      rw [u8s_get] at hv
      cases hx : t.xs[j]? with
      | none => rw [hx] at hv; cases hv
      | some x =>
        rw [hx] at hv; cases hv
        exact ⟨_, by rw [Nat.zero_add]; exact q2 j x hx, rfl⟩
  · obtain ⟨o, h2, h3⟩ := h2
    rcases ro _ o h2 with ⟨x, _, _, rfl⟩ | ⟨_, t, _, _, rfl⟩ <;> cases h3
  · rw [hn, List.length_map]
    unfold muT at h
    split at h
    · rename_i hb; cases h; exact ⟨by omega, Nat.lt_of_lt_of_le hb hW⟩
    · rw [List.getElem?_map] at h
      cases hx : l[b - P.globals.size]? with
      | none => rw [hx] at h; cases h
      | some x =>
        rw [hx] at h; cases h
        obtain ⟨c, fz, q1, _⟩ := hl x (List.mem_of_getElem? hx)
        have := (List.getElem?_eq_some_iff.1 hx).1
        exact ⟨by omega, (Array.getElem?_eq_some_iff.1 q1).1⟩
  · rw [hn, List.length_map] at h
    rw [hg, if_neg (by omega), List.getElem?_map, List.getElem?_eq_none (by omega)]; rfl
  · rcases ro b o h with ⟨x, _, _, rfl⟩ | ⟨_, t, _, _, rfl⟩ <;> rfl

/-! ### Calls told from a table, where tables lie -/
def tabIntrT (ts : List Tab) (T : List Ent) (f : Nat) (args : List AV) (h : AHeap) : Option (AV × AHeap) :=
  match tabIntr T f args h with
  | some r => match tabsIn h ts with
    | true => some r
    | false => none
  | none => none
def entT (P : Program) (els : Nat → Nat) (ts : List Tab) (intr : Nat → List AV → AHeap → Option (AV × AHeap)) (n : Nat) (e : Ent) : Bool :=
  match callN P intr n (.fn e.f) e.args (heapT P.globals.size els ts []) with
  | .ret v _ => AV.beq v e.v && refFree e.v && refFrees e.args
  | _ => false
def EntT (P : Program) (ts : List Tab) (e : Ent) : Prop := ∃ (intr : Nat → List AV → AHeap → Option (AV × AHeap)) (n : Nat), IntrOK P intr ∧ ∀ els, entT P els ts intr n e = true
section
variable {P : Program}
theorem tabT_ok (hf : Fit P) {ts : List Tab} (hts : ∀ t ∈ ts, t.g < P.globals.size) {T : List Ent} (hT : ∀ e ∈ T, EntT P ts e) : IntrOK P (tabIntrT ts T) := by
  intro f args H v H' hx μ w vs hh hg hv
  unfold tabIntrT at hx
  split at hx
  · rename_i r hr
    split at hx
    · rename_i hin
      cases hx
      obtain ⟨rfl, e, he, rfl, rfl, rfl⟩ := tab_mem T f args H v H' hr
      obtain ⟨intr, n, hi, hb0⟩ := hT e he
      obtain ⟨els, hels⟩ : ∃ els : Nat → Nat, ∀ g, els g = match w.heap[g]? with | some (.cells _ el _) => el | _ => 0 := ⟨_, fun _ => rfl⟩
      have hb := hb0 els
      unfold entT at hb
      split at hb
      · rename_i v1 H1 hrun
        simp only [Bool.and_eq_true] at hb
        obtain ⟨⟨hb1, hb2⟩, hb3⟩ := hb
        have hv1 := beq_eq _ _ hb1
        subst hv1
        have hG : P.globals.size ≤ w.heap.size := by
          cases hsz : P.globals.size with
          | zero => exact Nat.zero_le _
          | succ g =>
            obtain ⟨i, h1, h2, h3⟩ := hg g (by omega)
            have := (hh.lt _ i h1).2
            omega
        have hta : ∀ t ∈ ts, t.g < P.globals.size ∧ TabAt w els t := fun t ht => by
          refine ⟨hts t ht, ?_⟩
          obtain ⟨el, hget⟩ := isTab_get (tabsIn_mem hin t ht)
          obtain ⟨i, h1, h2, h3⟩ := hg t.g (hts t ht)
          obtain ⟨c, flo, fhi, k1, k2, k3, _⟩ := hh.rel _ _ i hget h1
          rw [h2] at k1
          rw [h3] at k2
          refine ⟨c, (flo, fhi), by rw [hels, k1], fun j x hj => ?_⟩
          obtain ⟨u, hu1, hu2⟩ := k2 j _ (by rw [u8s_get, hj]; rfl)
          rw [Nat.zero_add] at hu1
          rw [hu1, hu2]
        obtain ⟨s1, s2, s3⟩ := start_tabs (P := P) hG els ts hta [] (by simp)
        have hgo := (run_ok hf hi n).fn e.f e.args (heapT P.globals.size els ts []) (by rw [hrun]; rfl) _ w vs s1 s2 (refFrees_rel _ _ hb3 hv)
        rw [hrun] at hgo
        refine hgo.mono fun en w' hen => ?_
        obtain ⟨μ', u, rfl, q1, q2, q3⟩ := hen
        have hold : ∀ r, r < w.heap.size → w'.heap[r]? = w.heap[r]? := (q3.below s3 s1).block
        refine ⟨μ, u, rfl, refFree_rel _ _ hb2 q1, ⟨fun b o i hb hi => (hh.rel b o i hb hi).mono (Le.refl μ) (hold _ (hh.lt b i hi).2), hh.inj, fun b i hi => ⟨(hh.lt b i hi).1, Nat.lt_of_lt_of_le (hh.lt b i hi).2 q3.size⟩, hh.bound⟩, ?_⟩
        exact ⟨Le.refl μ, q3.size, Nat.le_refl _, fun _ _ hl => hl, fun _ _ _ => rfl, fun r hr _ => hold r hr, (fun b i h1 h2 => by rw [h1] at h2; cases h2), fun b o i hb _ hi => ⟨hb, hold _ (hh.lt b i hi).2⟩, q3.os, q3.out, q3.tape, q3.drawn⟩
      · cases hb
    · cases hx
  · cases hx
end
end AEv

namespace AEv
open Go Go.ChangeShapes Go.WideShapes Go.ChangeAt Go.RowKit

/-- The element's type of each variable's row. -/
def elsW (W : World) (g : Nat) : Nat := match W.heap[g]? with
  | some (.cells _ el _) => el
  | _ => 0
theorem tab_laid {P : Program} {W : World} {n : String} {d : DataW Unit} {g t N e fuel : Nat} {cs : Array Value} {p : List MemPlace} (ht : P.underlying t = some (.array N e)) (he : P.underlying e = some (.int .u8)) (hc : P.cellsOf e = 1)
    (hg : P.globalNamed n = some g) (hv : W.var? P n = some cs) (hd : DataW.trod (fun _ => ()) P W 0 (fun _ => true) false fuel t cs.toList = some (d, p)) (xs : List Nat) (hx : d = .agg (xs.map fun x => .lit (.int .u8 (Int.ofNat x)))) :
    TabAt W (elsW W) ⟨g, xs⟩ := by
  unfold World.var? at hv
  rw [hg, Option.bind_some] at hv
  split at hv
  · rename_i cs' el fz hb
    cases hv
    refine ⟨cs, fz, by unfold elsW; rw [hb], fun r x hr => ?_⟩
    obtain ⟨ys, m, _, ex, _, hl, hel⟩ := DataW.trod_array ht hd
    have e3 : (ys.map (·.1)) = xs.map fun x => .lit (.int .u8 (Int.ofNat x)) := by
      have := (Prod.mk.inj ex).1
      rw [hx] at this
      exact (DataW.agg.inj this).symm
    have hlen : ys.length = xs.length := by simpa using congrArg List.length e3
    have hrl : r < xs.length := (List.getElem?_eq_some_iff.1 hr).1
    have hE := hel r (by omega)
    rw [hc, Nat.mul_one, List.getElem?_eq_getElem (by omega)] at hE
    obtain ⟨z, e1, e2, _⟩ := DataW.trod_int he hE
    have e4 : (ys.map (·.1))[r]? = (xs.map fun x => (DataW.lit (.int .u8 (Int.ofNat x)) : DataW Unit))[r]? := by rw [e3]
    rw [List.getElem?_map, List.getElem?_map, List.getElem?_eq_getElem (by omega : r < ys.length), hr, e2] at e4
    have hz : z = Int.ofNat x := by simpa using e4
    subst hz
    have h0 : ((cs.toList.drop r).take 1)[0]? = some (.int .u8 (Int.ofNat x)) := by rw [e1]; rfl
    have h1 : cs.toList[r]? = some (.int .u8 (Int.ofNat x)) := by simpa using h0
    simpa using h1
  · cases hv
end AEv

namespace AEv
open Go Go.RowKit

mutual
/-- The blocks from G on come to lie from n on; there is no word of others. -/
def renV (G n : Nat) : AV → AV
  | .bad => .bad
  | .bool b => .bool b
  | .int k x => .int k x
  | .str s => .str s
  | .nilP => .nilP
  | .ptr b o => match Nat.blt b G with
    | true => .bad
    | false => .ptr (b - G + n) o
  | .nilS => .nilS
  | .slice b o l c => match Nat.blt b G with
    | true => .bad
    | false => .slice (b - G + n) o l c
  | .nilM => .nilM
  | .map r => match Nat.blt r G with
    | true => .bad
    | false => .map (r - G + n)
  | .nilF => .nilF
  | .fn f a b => .fn f (renVs G n a) (renVs G n b)
  | .yld l => .bad
  | .nilI => .nilI
  | .iface t v => .iface t (renV G n v)
  | .agg cs => .agg (renVs G n cs)
  | .tup vs => .tup (renVs G n vs)
def renVs (G n : Nat) : List AV → List AV
  | [] => []
  | v :: vs => renV G n v :: renVs G n vs
end
theorem renVs_len (G n : Nat) : ∀ l, (renVs G n l).length = l.length
  | [] => rfl
  | v :: l => by simp [renVs, renVs_len G n l]
theorem renVs_get (G n : Nat) : ∀ (l : List AV) (j : Nat), (renVs G n l)[j]? = (l[j]?).map (renV G n)
  | [], j => by simp [renVs]
  | v :: l, 0 => by simp [renVs]
  | v :: l, j + 1 => by simp [renVs, renVs_get G n l j]
mutual
theorem renV_rel {μ μ' : Mu} {G n : Nat} (h : ∀ b i, ¬ b < G → μ b = some i → μ' (b - G + n) = some i) : ∀ (a : AV) (v : Value), VRel μ a v → VRel μ' (renV G n a) v
  | .bad, _, _ => trivial
  | .bool _, _, h => h
  | .int _ _, _, h => h
  | .str _, _, h => h
  | .nilP, _, h => h
  | .ptr b off, _, ⟨i, hi, e⟩ => by
    simp only [renV]
    split
    · trivial
    · rename_i hb
      have hb' : ¬ b < G := by
        intro hx; rw [← Nat.blt_eq] at hx; rw [hx] at hb; cases hb
      exact ⟨i, h _ _ hb' hi, e⟩
  | .nilS, _, h => h
  | .slice b off len cap, _, ⟨i, hi, e⟩ => by
    simp only [renV]
    split
    · trivial
    · rename_i hb
      have hb' : ¬ b < G := by
        intro hx; rw [← Nat.blt_eq] at hx; rw [hx] at hb; cases hb
      exact ⟨i, h _ _ hb' hi, e⟩
  | .nilM, _, h => h
  | .map r, _, ⟨i, hi, e⟩ => by
    simp only [renV]
    split
    · trivial
    · rename_i hb
      have hb' : ¬ r < G := by
        intro hx; rw [← Nat.blt_eq] at hx; rw [hx] at hb; cases hb
      exact ⟨i, h _ _ hb' hi, e⟩
  | .nilF, _, h => h
  | .fn f first caps, _, ⟨fs, cs, e, h1, h2⟩ => ⟨fs, cs, e, renVs_rel h _ _ h1, renVs_rel h _ _ h2⟩
  | .yld l, _, _ => trivial
  | .nilI, _, h => h
  | .iface t x, _, ⟨y, e, hx⟩ => ⟨y, e, renV_rel h _ _ hx⟩
  | .agg cs, _, ⟨l, e, hx⟩ => ⟨l, e, renVs_rel h _ _ hx⟩
  | .tup cs, _, ⟨l, e, hx⟩ => ⟨l, e, renVs_rel h _ _ hx⟩
theorem renVs_rel {μ μ' : Mu} {G n : Nat} (h : ∀ b i, ¬ b < G → μ b = some i → μ' (b - G + n) = some i) : ∀ (as : List AV) (vs : List Value), VRels μ as vs → VRels μ' (renVs G n as) vs
  | [], _, h => h
  | a :: as, _, ⟨v, vs, e, h1, h2⟩ => ⟨v, vs, e, renV_rel h _ _ h1, renVs_rel h _ _ h2⟩
end
def renE (G n : Nat) (e : AEnt) : AEnt := ⟨renV G n e.key, renV G n e.val, e.born⟩
def renO (G n : Nat) : AObj → Option AObj
  | .cells cs el k lo hi => some (.cells (renVs G n cs) el k lo hi)
  | .map es c => some (.map (es.map (renE G n)) c)
  | _ => none
theorem renEs_rel {μ μ' : Mu} {G n : Nat} (h : ∀ b i, ¬ b < G → μ b = some i → μ' (b - G + n) = some i) : ∀ (es : List AEnt) (ms : List MapEntry), EntsRel μ es ms → EntsRel μ' (es.map (renE G n)) ms
  | [], _, h => h
  | e :: es, _, ⟨m, ms, q, ⟨h1, h2, h3⟩, h4⟩ => ⟨m, ms, q, ⟨renV_rel h _ _ h1, renV_rel h _ _ h2, h3⟩, renEs_rel h es ms h4⟩
theorem renO_rel {μ μ' : Mu} {G n : Nat} (h : ∀ b i, ¬ b < G → μ b = some i → μ' (b - G + n) = some i) {o o' : AObj} (he : renO G n o = some o') {i : Img} {w : World} (hr : ORel μ o i w) : ORel μ' o' i w := by
  cases o with
  | cells cs el k lo hi =>
    simp only [renO, Option.some.injEq] at he
    subst he
    obtain ⟨c, flo, fhi, h1, h2, h3, h4⟩ := hr
    refine ⟨c, flo, fhi, h1, fun j v hj => ?_, h3, ?_⟩
    · rw [renVs_get] at hj
      cases hx : cs[j]? with
      | none => rw [hx] at hj; cases hj
      | some v' =>
        rw [hx] at hj; cases hj
        obtain ⟨u, q1, q2⟩ := h2 j v' hx
        exact ⟨u, q1, renV_rel h _ _ q2⟩
    · cases k <;> simp only [KRel, renVs_len] at h4 ⊢ <;> exact h4
  | map es c =>
    simp only [renO, Option.some.injEq] at he
    subst he
    obtain ⟨ents, h1, h2⟩ := hr
    exact ⟨ents, h1, renEs_rel h _ _ h2⟩
  | strIter _ _ => cases he
  | mapIter _ _ _ _ => cases he
  | loop _ _ _ _ _ _ _ _ => cases he
  | defrd _ => cases he
  | raw _ => cases he
theorem renO_ro {G n : Nat} {o o' : AObj} (he : renO G n o = some o') : o'.isRo = o.isRo := by
  cases o with
  | cells cs el k lo hi => simp only [renO, Option.some.injEq] at he; subst he; cases k <;> rfl
  | map es c => simp only [renO, Option.some.injEq] at he; subst he; rfl
  | strIter _ _ => cases he
  | mapIter _ _ _ _ => cases he
  | loop _ _ _ _ _ _ _ _ => cases he
  | defrd _ => cases he
  | raw _ => cases he

def push? (h : AHeap) (o : Option AObj) : AHeap := ⟨HT.setN (h.n + 1) h.t h.n o, h.n + 1⟩
theorem push?_get (h : AHeap) (o : Option AObj) (c : Nat) : (push? h o).get c = if c = h.n then o else h.get c := HT.get_set _ _ _ _ _ (Nat.lt_succ_self _)
/-- What lies from G on in H1 comes to lie behind h. -/
def graft (G n : Nat) (H1 : AHeap) (h : AHeap) : Nat → AHeap
  | 0 => h
  | k + 1 => push? (graft G n H1 h k) ((H1.get (G + k)).bind (renO G n))
theorem graft_n (G n : Nat) (H1 h : AHeap) : ∀ k, (graft G n H1 h k).n = h.n + k
  | 0 => rfl
  | k + 1 => by show (graft G n H1 h k).n + 1 = _; rw [graft_n G n H1 h k]; omega
theorem graft_get (G n : Nat) (H1 h : AHeap) : ∀ (k b : Nat), (graft G n H1 h k).get b = if b < h.n then h.get b else if b < h.n + k then (H1.get (G + (b - h.n))).bind (renO G n) else h.get b
  | 0, b => by
    show h.get b = _
    by_cases h1 : b < h.n
    · rw [if_pos h1]
    · rw [if_neg h1, if_neg (by omega)]
  | k + 1, b => by
    show (push? (graft G n H1 h k) _).get b = _
    rw [push?_get, graft_n, graft_get G n H1 h k b]
    by_cases h1 : b < h.n
    · rw [if_neg (by omega), if_pos h1, if_pos h1]
    · rw [if_neg h1, if_neg h1]
      by_cases h2 : b = h.n + k
      · subst h2
        rw [if_pos rfl, if_pos (by omega), Nat.add_sub_cancel_left]
      · rw [if_neg h2]
        by_cases h3 : b < h.n + k
        · rw [if_pos h3, if_pos (by omega)]
        · rw [if_neg h3, if_neg (by omega)]

-- two runs that leave the same

def beqE : List AEnt → List AEnt → Bool
  | [], [] => true
  | a :: l, b :: m => AV.beq a.key b.key && AV.beq a.val b.val && Nat.beq a.born b.born && beqE l m
  | _, _ => false
theorem beqE_eq : ∀ (l m : List AEnt), beqE l m = true → l = m
  | [], [], _ => rfl
  | ⟨k, v, n⟩ :: l, ⟨k', v', n'⟩ :: m, h => by
    simp only [beqE, Bool.and_eq_true] at h
    obtain ⟨⟨⟨h1, h2⟩, h3⟩, h4⟩ := h
    have e1 : k = k' := beq_eq _ _ h1
    have e2 : v = v' := beq_eq _ _ h2
    have e3 : n = n' := Nat.eq_of_beq_eq_true h3
    rw [beqE_eq l m h4, e1, e2, e3]
def BK.code : BK → Nat
  | .own => 0 | .opn => 1 | .ro => 2 | .fz => 3
theorem BK.code_inj {a b : BK} (h : a.code = b.code) : a = b := by cases a <;> cases b <;> first | rfl | (simp [BK.code] at h)
def beqO : Option AObj → Option AObj → Bool
  | some (.cells a el k lo hi), some (.cells b el' k' lo' hi') => AV.beqs a b && Nat.beq el el' && Nat.beq k.code k'.code && Nat.beq lo lo' && Nat.beq hi hi'
  | some (.map a c), some (.map b c') => beqE a b && Nat.beq c c'
  | some (.cells ..), _ => false
  | some (.map ..), _ => false
  | _, some (.cells ..) => false
  | _, some (.map ..) => false
  | _, _ => true
theorem beqO_ren (G n : Nat) {a b : Option AObj} (h : beqO a b = true) : a.bind (renO G n) = b.bind (renO G n) := by
  cases a with
  | none => cases b with
    | none => rfl
    | some y => cases y <;> first | rfl | (simp [beqO] at h)
  | some x => cases b with
    | none => cases x <;> first | rfl | (simp [beqO] at h)
    | some y =>
      cases x <;> cases y <;> first
        | rfl
        | (simp [beqO] at h; done)
        | (simp only [beqO, Bool.and_eq_true] at h
           obtain ⟨⟨⟨⟨h1, h2⟩, h3⟩, h4⟩, h5⟩ := h
           rw [beqs_eq _ _ h1, Nat.eq_of_beq_eq_true h2, BK.code_inj (Nat.eq_of_beq_eq_true h3), Nat.eq_of_beq_eq_true h4, Nat.eq_of_beq_eq_true h5])
        | (simp only [beqO, Bool.and_eq_true] at h
           rw [beqE_eq _ _ h.1, Nat.eq_of_beq_eq_true h.2])
def cmpN (G : Nat) (H H' : AHeap) : Nat → Bool
  | 0 => true
  | k + 1 => match beqO (H.get (G + k)) (H'.get (G + k)) with
    | true => cmpN G H H' k
    | false => false
theorem cmpN_spec {G : Nat} {H H' : AHeap} : ∀ {k : Nat}, cmpN G H H' k = true → ∀ j, j < k → beqO (H.get (G + j)) (H'.get (G + j)) = true
  | 0, _, j, hj => by omega
  | k + 1, h, j, hj => by
    simp only [cmpN] at h
    split at h
    · rename_i h1
      rcases Nat.lt_or_ge j k with h2 | h2
      · exact cmpN_spec h j h2
      · obtain rfl : j = k := by omega
        exact h1
    · cases h
theorem cmpN_graft {G n : Nat} {H H' : AHeap} (h0 : AHeap) : ∀ {k : Nat}, cmpN G H H' k = true → graft G n H h0 k = graft G n H' h0 k
  | 0, _ => rfl
  | k + 1, h => by
    have h1 := cmpN_spec h k (by omega)
    have h2 : cmpN G H H' k = true := by
      simp only [cmpN, h1] at h; exact h
    show push? _ _ = push? _ _
    rw [cmpN_graft h0 h2, beqO_ren G n h1]
def sameR (G : Nat) : FRes → FRes → Bool
  | .ret v H, .ret v' H' => AV.beq v v' && Nat.beq H.n H'.n && cmpN G H H' (H.n - G)
  | _, _ => false

structure EntR where
  f : Nat
  args : List AV
  r : FRes
def intrR (G : Nat) (ts : List Tab) : List EntR → Nat → List AV → AHeap → Option (AV × AHeap)
  | [], _, _, _ => none
  | e :: T, f, args, h => match Nat.beq f e.f with
    | true => match AV.beqs args e.args with
      | true => match tabsIn h ts with
        | true => match e.r with
          | .ret v H => some (renV G h.n v, graft G h.n H h (H.n - G))
          | _ => none
        | false => none
      | false => intrR G ts T f args h
    | false => intrR G ts T f args h
theorem intrR_mem {G : Nat} {ts : List Tab} : ∀ {T : List EntR} {f : Nat} {args : List AV} {h : AHeap} {v : AV} {h' : AHeap}, intrR G ts T f args h = some (v, h') → tabsIn h ts = true ∧ ∃ e ∈ T, e.f = f ∧ e.args = args ∧ ∃ v0 H0, e.r = .ret v0 H0 ∧ v = renV G h.n v0 ∧ h' = graft G h.n H0 h (H0.n - G)
  | [], _, _, _, _, _, hx => by cases hx
  | e :: T, f, args, h, v, h', hx => by
    simp only [intrR] at hx
    have rest : intrR G ts T f args h = some (v, h') → tabsIn h ts = true ∧ ∃ e' ∈ e :: T, e'.f = f ∧ e'.args = args ∧ ∃ v0 H0, e'.r = .ret v0 H0 ∧ v = renV G h.n v0 ∧ h' = graft G h.n H0 h (H0.n - G) := fun hx => by
      obtain ⟨h0, e', h1, h2⟩ := intrR_mem hx
      exact ⟨h0, e', List.mem_cons_of_mem _ h1, h2⟩
    split at hx
    · rename_i hf
      split at hx
      · rename_i ha
        split at hx
        · rename_i ht
          split at hx
          · rename_i v0 H0 hr
            cases hx
            exact ⟨ht, e, by simp, (Nat.eq_of_beq_eq_true hf).symm, (beqs_eq _ _ ha).symm, v0, H0, hr, rfl, rfl⟩
          · cases hx
        · cases hx
      · exact rest hx
    · exact rest hx
section
variable {P : Program}
def EntROK (P : Program) (ts : List Tab) (e : EntR) : Prop := ∃ (intr : Nat → List AV → AHeap → Option (AV × AHeap)) (n : Nat), IntrOK P intr ∧ refFrees e.args = true ∧ ∀ els, sameR P.globals.size (callN P intr n (.fn e.f) e.args (heapT P.globals.size els ts [])) e.r = true
theorem intrR_ok (hf : Fit P) {ts : List Tab} (hts : ∀ t ∈ ts, t.g < P.globals.size) {T : List EntR} (hT : ∀ e ∈ T, EntROK P ts e) : IntrOK P (intrR P.globals.size ts T) := by
  intro f args H v H' hx μ w vs hh hg hv
  obtain ⟨hin, e, he, rfl, rfl, v0, H0, hr, rfl, rfl⟩ := intrR_mem hx
  obtain ⟨intr, n, hi, hb3, hb0⟩ := hT e he
  obtain ⟨els, hels⟩ : ∃ els : Nat → Nat, ∀ g, els g = match w.heap[g]? with | some (.cells _ el _) => el | _ => 0 := ⟨_, fun _ => rfl⟩
  have hb := hb0 els
  rw [hr] at hb
  unfold sameR at hb
  split at hb
  · rename_i v1 H1 v2 H2 hrun h2
    cases h2
    simp only [Bool.and_eq_true] at hb
    obtain ⟨⟨hb1, hb2⟩, hb4⟩ := hb
    have hv1 := beq_eq _ _ hb1
    subst hv1
    have hn1 : H1.n = H0.n := Nat.eq_of_beq_eq_true hb2
    have hgr : graft P.globals.size H.n H0 H (H0.n - P.globals.size) = graft P.globals.size H.n H1 H (H1.n - P.globals.size) := by
      rw [← hn1]; exact (cmpN_graft H hb4).symm
    rw [hgr]
    have hG : P.globals.size ≤ w.heap.size := by
      cases hsz : P.globals.size with
      | zero => exact Nat.zero_le _
      | succ g =>
        obtain ⟨i, h1, h2, h3⟩ := hg g (by omega)
        have := (hh.lt _ i h1).2
        omega
    have hta : ∀ t ∈ ts, t.g < P.globals.size ∧ TabAt w els t := fun t ht => by
      refine ⟨hts t ht, ?_⟩
      obtain ⟨el, hget⟩ := isTab_get (tabsIn_mem hin t ht)
      obtain ⟨i, h1, h2, h3⟩ := hg t.g (hts t ht)
      obtain ⟨c, flo, fhi, k1, k2, k3, _⟩ := hh.rel _ _ i hget h1
      rw [h2] at k1
      rw [h3] at k2
      refine ⟨c, (flo, fhi), by rw [hels, k1], fun j x hj => ?_⟩
      obtain ⟨u, hu1, hu2⟩ := k2 j _ (by rw [u8s_get, hj]; rfl)
      rw [Nat.zero_add] at hu1
      rw [hu1, hu2]
    obtain ⟨s1, s2, s3⟩ := start_tabs (P := P) hG els ts hta [] (by simp)
    have hgo := (run_ok hf hi n).fn e.f e.args (heapT P.globals.size els ts []) (by rw [hrun]; rfl) _ w vs s1 s2 (refFrees_rel _ _ hb3 hv)
    rw [hrun] at hgo
    refine hgo.mono fun en w' hen => ?_
    obtain ⟨μ1, u, rfl, q1, q2, q3⟩ := hen
    have hold : ∀ r, r < w.heap.size → w'.heap[r]? = w.heap[r]? := (q3.below s3 s1).block
    obtain ⟨μ', hμ'⟩ : ∃ μ' : Mu, ∀ b, μ' b = if b < H.n then μ b else μ1 (b - H.n + P.globals.size) := ⟨_, fun _ => rfl⟩
    have hGn : P.globals.size ≤ H1.n := by
      have := q3.n
      rw [(heapT_n P.globals.size els ts [] fun t ht => hts t ht).1] at this
      simpa using this
    have hle : Le μ μ' := fun b i hb => by rw [hμ', if_pos (hh.lt b i hb).1]; exact hb
    have hren : ∀ b i, ¬ b < P.globals.size → μ1 b = some i → μ' (b - P.globals.size + H.n) = some i := fun b i hb h1 => by
      rw [hμ', if_neg (by omega)]
      have e1 : b - P.globals.size + H.n - H.n + P.globals.size = b := by omega
      rw [e1]; exact h1
    have hnew : ∀ b i, ¬ b < H.n → μ' b = some i → μ1 (b - H.n + P.globals.size) = some i ∧ b < H.n + (H1.n - P.globals.size) ∧ w.heap.size ≤ i.blk := fun b i hb h1 => by
      rw [hμ', if_neg hb] at h1
      have h2 := q2.lt _ i h1
      refine ⟨h1, by omega, ?_⟩
      have hm : muT P.globals.size (szW w) (([] : List (Img × List AV × Nat)).map (·.1)) (b - H.n + P.globals.size) = none := by
        unfold muT; rw [if_neg (by omega)]; rfl
      rcases (q3.new _ i hm h1).2 with h3 | ⟨c, o, j, h3, h4, _⟩
      · exact h3
      · have := s3 c o h3; rw [h4] at this; cases this
    have hget : ∀ b, (graft P.globals.size H.n H1 H (H1.n - P.globals.size)).get b = if b < H.n then H.get b else if b < H.n + (H1.n - P.globals.size) then (H1.get (P.globals.size + (b - H.n))).bind (renO P.globals.size H.n) else H.get b := graft_get _ _ _ _ _
    have hgn : ∀ b o, ¬ b < H.n → (graft P.globals.size H.n H1 H (H1.n - P.globals.size)).get b = some o → ∃ o1, H1.get (b - H.n + P.globals.size) = some o1 ∧ renO P.globals.size H.n o1 = some o := fun b o hb h1 => by
      rw [hget, if_neg hb] at h1
      split at h1
      · rw [Nat.add_comm] at h1
        cases hx : H1.get (b - H.n + P.globals.size) with
        | none => rw [hx] at h1; cases h1
        | some o1 => rw [hx] at h1; exact ⟨o1, rfl, h1⟩
      · rw [hh.bound b (by omega)] at h1; cases h1
    refine ⟨μ', u, rfl, renV_rel hren _ _ q1, ⟨fun b o i hb hi => ?_, fun b c i j hb hc hi hj hij => ?_, fun b i hi => ?_, fun b hb => ?_⟩, ?_⟩
    · by_cases h1 : b < H.n
      · rw [hget, if_pos h1] at hb
        rw [hμ', if_pos h1] at hi
        exact (hh.rel b o i hb hi).mono hle (hold _ (hh.lt b i hi).2)
      · obtain ⟨o1, h2, h3⟩ := hgn b o h1 hb
        exact renO_rel hren h3 (q2.rel _ o1 i h2 (hnew b i h1 hi).1)
    · obtain ⟨oc, hc, hro⟩ := hc
      by_cases h1 : b < H.n
      · rw [hget, if_pos h1] at hb
        rw [hμ', if_pos h1] at hi
        by_cases h2 : c < H.n
        · rw [hget, if_pos h2] at hc
          rw [hμ', if_pos h2] at hj
          exact hh.inj b c i j hb ⟨oc, hc, hro⟩ hi hj hij
        · have q := (hnew c j h2 hj).2.2
          have := (hh.lt b i hi).2
          omega
      · have q := (hnew b i h1 hi)
        by_cases h2 : c < H.n
        · rw [hμ', if_pos h2] at hj
          have := (hh.lt c j hj).2
          have := q.2.2
          omega
        · obtain ⟨o1, k1, k2⟩ := hgn c oc h2 hc
          have hb' : H1.get (b - H.n + P.globals.size) ≠ none := fun hx => by
            cases hy : (graft P.globals.size H.n H1 H (H1.n - P.globals.size)).get b with
            | none => exact hb hy
            | some ob => obtain ⟨o2, k3, _⟩ := hgn b ob h1 hy; rw [hx] at k3; cases k3
          have := q2.inj _ _ i j hb' ⟨o1, k1, by rw [← renO_ro k2]; exact hro⟩ q.1 (hnew c j h2 hj).1 hij
          omega
    · by_cases h1 : b < H.n
      · rw [hμ', if_pos h1] at hi
        exact ⟨by rw [graft_n]; omega, Nat.lt_of_lt_of_le (hh.lt b i hi).2 q3.size⟩
      · have q := hnew b i h1 hi
        exact ⟨by rw [graft_n]; exact q.2.1, (q2.lt _ i q.1).2⟩
    · rw [graft_n] at hb
      rw [hget, if_neg (by omega), if_neg (by omega)]
      exact hh.bound b (by omega)
    · refine ⟨hle, q3.size, by rw [graft_n]; omega, fun b hb hl => ?_, fun b hb _ => ?_, fun r hr _ => hold r hr, fun b i h1 h2 => ?_, fun b o i hb _ hi => ?_, q3.os, q3.out, q3.tape, q3.drawn⟩
      · rw [hget, if_pos hb] at hl; exact hl
      · rw [hget, if_pos hb]
      · have hb : ¬ b < H.n := fun hb => by rw [hμ', if_pos hb, h1] at h2; cases h2
        exact ⟨by omega, .inl (hnew b i hb h2).2.2⟩
      · refine ⟨?_, hold _ (hh.lt b i hi).2⟩
        rw [hget, if_pos (hh.lt b i hi).1]; exact hb
  · cases hb
def orE (i1 i2 : Nat → List AV → AHeap → Option (AV × AHeap)) (f : Nat) (args : List AV) (h : AHeap) : Option (AV × AHeap) := match i1 f args h with
  | some r => some r
  | none => i2 f args h
theorem orE_ok {i1 i2 : Nat → List AV → AHeap → Option (AV × AHeap)} (h1 : IntrOK P i1) (h2 : IntrOK P i2) : IntrOK P (orE i1 i2) := by
  intro f args H v H' hx
  unfold orE at hx
  split at hx
  · rename_i r hr
    cases hx
    exact h1 f args H v H' hr
  · exact h2 f args H v H' hx
end
end AEv

namespace AEv
open Go Go.ChangeShapes Go.WideShapes Go.ChangeAt Go.RowKit

def pairsL : List (Nat × Nat) → List Nat
  | [] => []
  | (a, b) :: l => a :: b :: pairsL l
theorem pairsL_get : ∀ (l : List (Nat × Nat)) (j : Nat), (pairsL l)[2 * j]? = (l[j]?).map (·.1) ∧ (pairsL l)[2 * j + 1]? = (l[j]?).map (·.2)
  | [], j => by simp [pairsL]
  | (a, b) :: l, 0 => by simp [pairsL]
  | (a, b) :: l, j + 1 => by
    have ih := pairsL_get l j
    rw [show 2 * (j + 1) = 2 * j + 1 + 1 by omega]
    simp only [pairsL, List.getElem?_cons_succ]
    exact ih
theorem tab_laid2 {P : Program} {W : World} {n : String} {d : DataW Unit} {g t N e fuel : Nat} {f0 f1 : Field} {cs : Array Value} {p : List MemPlace} (ht : P.underlying t = some (.array N e)) (he : P.underlying e = some (.struct #[f0, f1])) (hc : P.cellsOf e = 2)
    (h0 : P.underlying f0.type = some (.int .u8)) (h1 : P.underlying f1.type = some (.int .u8)) (c0 : P.cellsOf f0.type = 1) (c1 : P.cellsOf f1.type = 1) (o0 : f0.offset = 0) (o1 : f1.offset = 1)
    (hg : P.globalNamed n = some g) (hv : W.var? P n = some cs) (hd : DataW.trod (fun _ => ()) P W 0 (fun _ => true) false fuel t cs.toList = some (d, p)) (xs : List (Nat × Nat)) (hx : d = .agg (xs.map fun x => .agg [.lit (.int .u8 (Int.ofNat x.1)), .lit (.int .u8 (Int.ofNat x.2))])) :
    TabAt W (elsW W) ⟨g, pairsL xs⟩ := by
  unfold World.var? at hv
  rw [hg, Option.bind_some] at hv
  split at hv
  · rename_i cs' el fz hb
    cases hv
    refine ⟨cs, fz, by unfold elsW; rw [hb], fun r x hr => ?_⟩
    obtain ⟨ys, m, _, ex, _, hl, hel⟩ := DataW.trod_array ht hd
    have e3 : (ys.map (·.1)) = xs.map fun x => .agg [.lit (.int .u8 (Int.ofNat x.1)), .lit (.int .u8 (Int.ofNat x.2))] := by
      have := (Prod.mk.inj ex).1
      rw [hx] at this
      exact (DataW.agg.inj this).symm
    have hlen : ys.length = xs.length := by simpa using congrArg List.length e3
    have key : ∀ (j : Nat) (q : Nat × Nat), xs[j]? = some q → cs.toList[2 * j]? = some (.int .u8 (Int.ofNat q.1)) ∧ cs.toList[2 * j + 1]? = some (.int .u8 (Int.ofNat q.2)) := by
      intro j q hq
      have hjl : j < xs.length := (List.getElem?_eq_some_iff.1 hq).1
      have hE := hel j (by omega)
      rw [hc, List.getElem?_eq_getElem (by omega)] at hE
      obtain ⟨y0, y1, m', ey, _, t0, t1⟩ := trod_struct2 he hE
      have e4 : (ys.map (·.1))[j]? = (xs.map fun x => (DataW.agg [.lit (.int .u8 (Int.ofNat x.1)), .lit (.int .u8 (Int.ofNat x.2))] : DataW Unit))[j]? := by rw [e3]
      rw [List.getElem?_map, List.getElem?_map, List.getElem?_eq_getElem (by omega : j < ys.length), hq, ey] at e4
      rw [o0, c0] at t0
      rw [o1, c1] at t1
      obtain ⟨z0, a1, a2, _⟩ := DataW.trod_int h0 (show DataW.trod (fun _ => ()) P W 0 (fun _ => true) false m' f0.type _ = some (y0.1, y0.2) from t0)
      obtain ⟨z1, b1, b2, _⟩ := DataW.trod_int h1 (show DataW.trod (fun _ => ()) P W 0 (fun _ => true) false m' f1.type _ = some (y1.1, y1.2) from t1)
      simp only [Option.map_some, Option.some.injEq, DataW.agg.injEq, List.cons.injEq] at e4
      obtain ⟨k0, k1, _⟩ := e4
      rw [(Prod.mk.inj a2).1] at k0
      rw [(Prod.mk.inj b2).1] at k1
      have hz0 : z0 = Int.ofNat q.1 := by simpa using k0
      have hz1 : z1 = Int.ofNat q.2 := by simpa using k1
      subst hz0; subst hz1
      have q0 : (((cs.toList.drop (j * 2)).take 2).drop 0 |>.take 1)[0]? = some (.int .u8 (Int.ofNat q.1)) := by rw [a1]; rfl
      have q1 : (((cs.toList.drop (j * 2)).take 2).drop 1 |>.take 1)[0]? = some (.int .u8 (Int.ofNat q.2)) := by rw [b1]; rfl
      rw [Nat.mul_comm] at q0 q1
      constructor
      · simpa using q0
      · simpa using q1
    obtain ⟨j, hj⟩ : ∃ j, r = 2 * j ∨ r = 2 * j + 1 := ⟨r / 2, by omega⟩
    have hp := pairsL_get xs j
    rcases hj with rfl | rfl
    · simp only at hr
      rw [hp.1] at hr
      cases hq : xs[j]? with
      | none => rw [hq] at hr; cases hr
      | some q => rw [hq] at hr; cases hr; simpa using (key j q hq).1
    · simp only at hr
      rw [hp.2] at hr
      cases hq : xs[j]? with
      | none => rw [hq] at hr; cases hr
      | some q => rw [hq] at hr; cases hr; simpa using (key j q hq).2
  · cases hv
end AEv

namespace AEv
open Go

end AEv

namespace AEv
open Go

end AEv

namespace AEv
open Go Go.RowKit

/-- A memory of so many blocks, of which these are known. -/
def mkH (n : Nat) : List (Nat × AObj) → AHeap
  | [] => emptyHeap n
  | (b, o) :: l => (mkH n l).set b (some o)
section
variable {P : Program}
end
end AEv

namespace AEv
open Go Go.RowKit

section
variable {P : Program}
end
end AEv

namespace AEv
open Go Go.RowKit

def isCM : AObj → Bool
  | .cells .. => true
  | .map .. => true
  | _ => false
theorem beqO_some {o : AObj} {x : Option AObj} (hc : isCM o = true) (h : beqO (some o) x = true) : x = some o := by
  cases x with
  | none => cases o <;> first | (simp [beqO] at h; done) | cases hc
  | some y =>
    cases o with
    | cells a el k lo hi =>
      cases y <;> first
        | (simp [beqO] at h; done)
        | (simp only [beqO, Bool.and_eq_true] at h
           obtain ⟨⟨⟨⟨h1, h2⟩, h3⟩, h4⟩, h5⟩ := h
           rw [beqs_eq _ _ h1, Nat.eq_of_beq_eq_true h2, BK.code_inj (Nat.eq_of_beq_eq_true h3), Nat.eq_of_beq_eq_true h4, Nat.eq_of_beq_eq_true h5])
    | map a c =>
      cases y <;> first
        | (simp [beqO] at h; done)
        | (simp only [beqO, Bool.and_eq_true] at h
           rw [beqE_eq _ _ h.1, Nat.eq_of_beq_eq_true h.2])
    | strIter _ _ => cases hc
    | mapIter _ _ _ _ => cases hc
    | loop _ _ _ _ _ _ _ _ => cases hc
    | defrd _ => cases hc
    | raw _ => cases hc
/-- Every one of these blocks is there, just so. -/
def agreeB (h : AHeap) : List (Nat × AObj) → Bool
  | [] => true
  | (b, o) :: l => match isCM o with
    | true => match beqO (some o) (h.get b) with
      | true => agreeB h l
      | false => false
    | false => false
theorem agreeB_mem {h : AHeap} : ∀ {l : List (Nat × AObj)}, agreeB h l = true → ∀ b o, (b, o) ∈ l → h.get b = some o
  | [], _, _, _, hm => by cases hm
  | (c, o) :: l, ha, b, x, hm => by
    unfold agreeB at ha
    split at ha
    · rename_i h1
      split at ha
      · rename_i h2
        rcases List.mem_cons.1 hm with e | hm
        · cases e; exact beqO_some h1 h2
        · exact agreeB_mem ha b x hm
      · cases ha
    · cases ha
def putL (h : AHeap) : List (Nat × AObj) → AHeap
  | [] => h
  | (b, o) :: l => (putL h l).set b (some o)
theorem putL_n (h : AHeap) : ∀ l, (putL h l).n = h.n
  | [] => rfl
  | (b, o) :: l => putL_n h l
theorem putL_get (h : AHeap) : ∀ (l : List (Nat × AObj)) (b : Nat), (∃ o, (b, o) ∈ l ∧ (putL h l).get b = some o) ∨ ((∀ o, (b, o) ∉ l) ∧ (putL h l).get b = h.get b)
  | [], b => .inr ⟨fun o hm => (by cases hm), rfl⟩
  | (c, o) :: l, b => by
    show (∃ o', (b, o') ∈ (c, o) :: l ∧ ((putL h l).set c (some o)).get b = some o') ∨ ((∀ o', (b, o') ∉ (c, o) :: l) ∧ ((putL h l).set c (some o)).get b = h.get b)
    rw [AHeap.get_set]
    by_cases e : b = c
    · subst e; exact .inl ⟨o, by simp, by rw [if_pos rfl]⟩
    · rw [if_neg e]
      rcases putL_get h l b with ⟨o', h1, h2⟩ | ⟨h1, h2⟩
      · exact .inl ⟨o', List.mem_cons_of_mem _ h1, h2⟩
      · refine .inr ⟨fun o' hm => ?_, h2⟩
        rcases List.mem_cons.1 hm with q | hm
        · cases q; exact e rfl
        · exact h1 o' hm
structure EntF where
  f : Nat
  args : List AV
  n : Nat
  pre : List (Nat × AObj)
  v : AV
  n' : Nat
  post : List (Nat × AObj)
def keysIn (l : List (Nat × AObj)) : List (Nat × AObj) → Bool
  | [] => true
  | (b, _) :: m => match l.any fun x => Nat.beq x.1 b with
    | true => keysIn l m
    | false => false
theorem keysIn_mem {l : List (Nat × AObj)} : ∀ {m : List (Nat × AObj)}, keysIn l m = true → ∀ b o, (b, o) ∈ m → ∃ o', (b, o') ∈ l
  | [], _, _, _, hm => by cases hm
  | (c, o) :: m, h, b, x, hm => by
    unfold keysIn at h
    split at h
    · rename_i h1
      rcases List.mem_cons.1 hm with e | hm
      · have e1 : b = c := congrArg Prod.fst e
        obtain ⟨⟨y, o'⟩, h2, h3⟩ := List.any_eq_true.1 h1
        have hy : y = c := Nat.eq_of_beq_eq_true h3
        subst hy
        rw [e1]
        exact ⟨o', h2⟩
      · exact keysIn_mem h b x hm
    · cases h
def belowB (n : Nat) : List (Nat × AObj) → Bool
  | [] => true
  | (b, _) :: m => match Nat.blt b n with
    | true => belowB n m
    | false => false
theorem belowB_mem {n : Nat} : ∀ {m : List (Nat × AObj)}, belowB n m = true → ∀ b o, (b, o) ∈ m → b < n
  | [], _, _, _, hm => by cases hm
  | (c, o) :: m, h, b, x, hm => by
    unfold belowB at h
    split at h
    · rename_i h1
      rcases List.mem_cons.1 hm with e | hm
      · cases e; rw [Nat.blt_eq] at h1; exact h1
      · exact belowB_mem h b x hm
    · cases h
def intrF : List EntF → Nat → List AV → AHeap → Option (AV × AHeap)
  | [], _, _, _ => none
  | e :: T, f, args, h => match Nat.beq f e.f with
    | true => match Nat.beq h.n e.n with
      | true => match AV.beqs args e.args with
        | true => match agreeB h e.pre with
          | true => some (e.v, ⟨(putL h e.post).t, e.n'⟩)
          | false => intrF T f args h
        | false => intrF T f args h
      | false => intrF T f args h
    | false => intrF T f args h
theorem intrF_mem : ∀ {T : List EntF} {f : Nat} {args : List AV} {h : AHeap} {v : AV} {h' : AHeap}, intrF T f args h = some (v, h') → ∃ e ∈ T, e.f = f ∧ e.args = args ∧ h.n = e.n ∧ agreeB h e.pre = true ∧ v = e.v ∧ h' = ⟨(putL h e.post).t, e.n'⟩
  | [], _, _, _, _, _, hx => by cases hx
  | e :: T, f, args, h, v, h', hx => by
    simp only [intrF] at hx
    have rest : intrF T f args h = some (v, h') → ∃ e' ∈ e :: T, e'.f = f ∧ e'.args = args ∧ h.n = e'.n ∧ agreeB h e'.pre = true ∧ v = e'.v ∧ h' = ⟨(putL h e'.post).t, e'.n'⟩ := fun hx => by
      obtain ⟨e', h1, h2⟩ := intrF_mem hx
      exact ⟨e', List.mem_cons_of_mem _ h1, h2⟩
    split at hx
    · rename_i hf
      split at hx
      · rename_i hn
        split at hx
        · rename_i ha
          split at hx
          · rename_i hg
            cases hx
            exact ⟨e, by simp, (Nat.eq_of_beq_eq_true hf).symm, (beqs_eq _ _ ha).symm, Nat.eq_of_beq_eq_true hn, hg, rfl, rfl⟩
          · exact rest hx
        · exact rest hx
      · exact rest hx
    · exact rest hx
section
variable {P : Program}
def entF (P : Program) (intr : Nat → List AV → AHeap → Option (AV × AHeap)) (k : Nat) (e : EntF) : Bool :=
  match callN P intr k (.fn e.f) e.args (mkH e.n e.pre) with
  | .ret v H => AV.beq v e.v && (Nat.beq H.n e.n' && (agreeB H e.post && (keysIn e.post e.pre && belowB e.n e.pre)))
  | _ => false
def EntFOK (P : Program) (e : EntF) : Prop := ∃ (intr : Nat → List AV → AHeap → Option (AV × AHeap)) (k : Nat), IntrOK P intr ∧ entF P intr k e = true
theorem mkH_put (n : Nat) : ∀ l, mkH n l = putL (emptyHeap n) l
  | [] => rfl
  | (b, o) :: l => by show (mkH n l).set b (some o) = (putL (emptyHeap n) l).set b (some o); rw [mkH_put n l]
theorem emptyHeap_get (n b : Nat) : (emptyHeap n).get b = none := by cases b <;> rfl
theorem intrF_ok (hf : Fit P) {T : List EntF} (hT : ∀ e ∈ T, EntFOK P e) : IntrOK P (intrF T) := by
  intro f args H v H' hx μ w vs hh hg hv
  obtain ⟨e, he, rfl, rfl, hn, hag, rfl, rfl⟩ := intrF_mem hx
  obtain ⟨intr, k, hi, hb⟩ := hT e he
  unfold entF at hb
  split at hb
  · rename_i v1 H1 hrun
    simp only [Bool.and_eq_true] at hb
    obtain ⟨hb1, hb2, hb3, hb4, hb5⟩ := hb
    have hv1 := beq_eq _ _ hb1
    subst hv1
    have hn1 : H1.n = e.n' := Nat.eq_of_beq_eq_true hb2
    have hpre := agreeB_mem hag
    have hpost := agreeB_mem hb3
    have hkey := keysIn_mem hb4
    have hbel := belowB_mem hb5
    obtain ⟨Hf, hHf⟩ : ∃ Hf, Hf = mkH e.n e.pre := ⟨_, rfl⟩
    have hfn : Hf.n = e.n := by rw [hHf, mkH_put, putL_n]; rfl
    have hfg : ∀ b o, Hf.get b = some o → (b, o) ∈ e.pre ∧ H.get b = some o := fun b o h => by
      rw [hHf, mkH_put] at h
      rcases putL_get (emptyHeap e.n) e.pre b with ⟨o', h1, h2⟩ | ⟨h1, h2⟩
      · rw [h] at h2; cases h2; exact ⟨h1, hpre b o h1⟩
      · rw [h, emptyHeap_get] at h2; cases h2
    have hfi : ∀ b o, (b, o) ∈ e.pre → Hf.get b = H.get b := fun b o h => by
      rw [hHf, mkH_put]
      rcases putL_get (emptyHeap e.n) e.pre b with ⟨o', h1, h2⟩ | ⟨h1, h2⟩
      · rw [h2, hpre b o' h1]
      · exact absurd h (h1 o)
    have hhf : HRel μ Hf w := ⟨fun b o i h1 h2 => hh.rel b o i (hfg b o h1).2 h2, fun b c i j h1 h2 => by
        obtain ⟨o, h3, h4⟩ := h2
        refine hh.inj b c i j ?_ ⟨o, (hfg c o h3).2, h4⟩
        cases hx : Hf.get b with
        | none => exact absurd hx h1
        | some y => rw [(hfg b y hx).2]; simp, fun b i h1 => by
        have := hh.lt b i h1
        exact ⟨by rw [hfn, ← hn]; exact this.1, this.2⟩, fun b hb' => by
        cases hx : Hf.get b with
        | none => rfl
        | some y =>
          have := hbel b y (hfg b y hx).1
          omega⟩
    rw [← hHf] at hrun
    have hgo := (run_ok hf hi k).fn e.f e.args Hf (by rw [hrun]; rfl) μ w vs hhf hg hv
    rw [hrun] at hgo
    refine hgo.mono fun en w' hen => ?_
    obtain ⟨μ1, u, rfl, q1, q2, q3⟩ := hen
    have hnn : e.n ≤ e.n' := by have := q3.n; omega
    -- what the result knows
    have hres : ∀ b o, (⟨(putL H e.post).t, e.n'⟩ : AHeap).get b = some o → (H1.get b = some o ∧ ∃ o', (b, o') ∈ e.post) ∨ ((∀ o', (b, o') ∉ e.post) ∧ H.get b = some o) := fun b o h => by
      have h' : (putL H e.post).get b = some o := h
      rcases putL_get H e.post b with ⟨o', h1, h2⟩ | ⟨h1, h2⟩
      · rw [h'] at h2; cases h2; exact .inl ⟨hpost b o h1, o, h1⟩
      · rw [h'] at h2; exact .inr ⟨h1, h2.symm⟩
    have hin : ∀ b o', (b, o') ∈ e.post → (⟨(putL H e.post).t, e.n'⟩ : AHeap).get b = H1.get b := fun b o' h => by
      show (putL H e.post).get b = _
      rcases putL_get H e.post b with ⟨o2, h1, h2⟩ | ⟨h1, h2⟩
      · rw [h2, hpost b o2 h1]
      · exact absurd h (h1 o')
    have hout : ∀ b, (∀ o', (b, o') ∉ e.post) → (⟨(putL H e.post).t, e.n'⟩ : AHeap).get b = H.get b := fun b h => by
      show (putL H e.post).get b = _
      rcases putL_get H e.post b with ⟨o2, h1, h2⟩ | ⟨h1, h2⟩
      · exact absurd h1 (h o2)
      · exact h2
    have hnp : ∀ b, (∀ o', (b, o') ∉ e.post) → Hf.get b = none := fun b h => by
      cases hx : Hf.get b with
      | none => rfl
      | some y =>
        obtain ⟨o', h1⟩ := hkey b y (hfg b y hx).1
        exact absurd h1 (h o')
    have hlow : ∀ b i, b < H.n → μ1 b = some i → μ b = some i := fun b i hb h1 => by
      cases hx : μ b with
      | none => have := (q3.new b i hx h1).1; omega
      | some j => rw [← h1]; exact (q3.le b j hx).symm ▸ rfl
    -- old blocks beside the part are as they were
    have hsame : ∀ b o i, H.get b = some o → (∀ o', (b, o') ∉ e.post) → μ b = some i → w'.heap[i.blk]? = w.heap[i.blk]? := fun b o i h1 h2 h3 => by
      by_cases hc : ∃ c j, Hf.get c ≠ none ∧ μ c = some j ∧ j.blk = i.blk
      · obtain ⟨c, j, c1, c2, c3⟩ := hc
        cases hx : Hf.get c with
        | none => exact absurd hx c1
        | some y =>
          cases hy : y.isRo with
          | true => rw [← c3]; exact (q3.ro c y j hx hy c2).2
          | false =>
            have := hh.inj b c i j (by rw [h1]; simp) ⟨y, (hfg c y hx).2, hy⟩ h3 c2 c3.symm
            subst this
            rw [hnp b h2] at hx; cases hx
      · exact q3.old i.blk (hh.lt b i h3).2 fun c j c1 c2 c3 => hc ⟨c, j, c1, c2, c3⟩
    refine ⟨μ1, u, rfl, q1, ⟨fun b o i hb hi => ?_, fun b c i j hb hc hi hj hij => ?_, fun b i hi => ?_, fun b hb => ?_⟩, ?_⟩
    · rcases hres b o hb with ⟨h1, _⟩ | ⟨h1, h2⟩
      · exact q2.rel b o i h1 hi
      · have hbn : b < H.n := by
          rcases Nat.lt_or_ge b H.n with h | h
          · exact h
          · rw [hh.bound b h] at h2; cases h2
        have hm := hlow b i hbn hi
        exact (hh.rel b o i h2 hm).mono q3.le (hsame b o i h2 h1 hm)
    · obtain ⟨oc, hc, hro⟩ := hc
      cases hxb : (⟨(putL H e.post).t, e.n'⟩ : AHeap).get b with
      | none => exact absurd hxb hb
      | some ob =>
        have old_lt : ∀ x y, H.get x = some y → x < H.n := fun x y h => by
          rcases Nat.lt_or_ge x H.n with h' | h'
          · exact h'
          · rw [hh.bound x h'] at h; cases h
        rcases hres b ob hxb with ⟨b1, _⟩ | ⟨b1, b2⟩
        · rcases hres c oc hc with ⟨c1, _⟩ | ⟨c1, c2⟩
          · exact q2.inj b c i j (by rw [b1]; simp) ⟨oc, c1, hro⟩ hi hj hij
          · have hcn := old_lt c oc c2
            have hmc := hlow c j hcn hj
            rcases Nat.lt_or_ge b H.n with hbn | hbn
            · have hmb := hlow b i hbn hi
              have hl : Hf.get b ≠ none := q3.live b (by omega) (by rw [b1]; simp)
              cases hx : Hf.get b with
              | none => exact absurd hx hl
              | some y => exact hh.inj b c i j (by rw [(hfg b y hx).2]; simp) ⟨oc, c2, hro⟩ hmb hmc hij
            · have hmb : μ b = none := by
                cases hx : μ b with
                | none => rfl
                | some y => have := (hh.lt b y hx).1; omega
              rcases (q3.new b i hmb hi).2 with h3 | ⟨c', o', j', k1, k2, k3, k4⟩
              · have := (hh.lt c j hmc).2; omega
              · have := hh.inj c' c j' j (by rw [(hfg c' o' k1).2]; simp) ⟨oc, c2, hro⟩ k3 hmc (by omega)
                subst this
                rw [hnp c' c1] at k1; cases k1
        · have hbn := old_lt b ob b2
          have hmb := hlow b i hbn hi
          rcases hres c oc hc with ⟨c1, _⟩ | ⟨c1, c2⟩
          · rcases Nat.lt_or_ge c H.n with hcn | hcn
            · have hmc := hlow c j hcn hj
              have hl : Hf.get c ≠ none := q3.live c (by omega) (by rw [c1]; simp)
              cases hx : Hf.get c with
              | none => exact absurd hx hl
              | some y =>
                cases hy : y.isRo with
                | true =>
                  have := (q3.ro c y j hx hy hmc).1
                  rw [c1] at this; cases this
                  rw [hy] at hro; cases hro
                | false => exact hh.inj b c i j (by rw [b2]; simp) ⟨y, (hfg c y hx).2, hy⟩ hmb hmc hij
            · have hmc : μ c = none := by
                cases hx : μ c with
                | none => rfl
                | some y => have := (hh.lt c y hx).1; omega
              rcases (q3.new c j hmc hj).2 with h3 | ⟨c', o', j', k1, k2, k3, k4⟩
              · have := (hh.lt b i hmb).2; omega
              · have := hh.inj b c' i j' (by rw [b2]; simp) ⟨o', (hfg c' o' k1).2, k2⟩ hmb k3 (by omega)
                subst this
                rw [hnp b b1] at k1; cases k1
          · exact hh.inj b c i j (by rw [b2]; simp) ⟨oc, c2, hro⟩ hmb (hlow c j (old_lt c oc c2) hj) hij
    · have := q2.lt b i hi
      exact ⟨by show b < e.n'; omega, this.2⟩
    · have hb' : e.n' ≤ b := hb
      cases hx : (⟨(putL H e.post).t, e.n'⟩ : AHeap).get b with
      | none => rfl
      | some o =>
        rcases hres b o hx with ⟨h1, _⟩ | ⟨h1, h2⟩
        · rw [q2.bound b (by omega)] at h1; cases h1
        · rw [hh.bound b (by omega)] at h2; cases h2
    · refine ⟨q3.le, q3.size, by show H.n ≤ e.n'; omega, fun b hb hl => ?_, fun b hb hm => ?_, fun r hr ho => q3.old r hr fun b i h1 h2 => ?_, fun b i h1 h2 => ?_, fun b o i hb hro hi => ?_, q3.os, q3.out, q3.tape, q3.drawn⟩
      · cases hx : (⟨(putL H e.post).t, e.n'⟩ : AHeap).get b with
        | none => exact absurd hx hl
        | some o =>
          rcases hres b o hx with ⟨h1, _⟩ | ⟨h1, h2⟩
          · have hl' : Hf.get b ≠ none := q3.live b (by omega) (by rw [h1]; simp)
            cases hy : Hf.get b with
            | none => exact absurd hy hl'
            | some y => rw [(hfg b y hy).2]; simp
          · rw [h2]; simp
      · by_cases hp : ∃ o', (b, o') ∈ e.post
        · obtain ⟨o', hp⟩ := hp
          rw [hin b o' hp, q3.idle b (by omega) hm]
          have h1 := hpost b o' hp
          have hl' : Hf.get b ≠ none := q3.live b (by omega) (by rw [h1]; simp)
          cases hy : Hf.get b with
          | none => exact absurd hy hl'
          | some y => rw [(hfg b y hy).2]
        · exact hout b fun o' h => hp ⟨o', h⟩
      · cases hy : Hf.get b with
        | none => exact absurd hy h1
        | some y => exact ho b i (by rw [(hfg b y hy).2]; simp) h2
      · obtain ⟨h3, h4⟩ := q3.new b i h1 h2
        refine ⟨by omega, ?_⟩
        rcases h4 with h4 | ⟨c, o, j, k1, k2, k3, k4⟩
        · exact .inl h4
        · exact .inr ⟨c, o, j, (hfg c o k1).2, k2, k3, k4⟩
      · by_cases hp : ∃ o', (b, o') ∈ e.post
        · obtain ⟨o', hp⟩ := hp
          have h1 := hpost b o' hp
          have hbn : b < H.n := (hh.lt b i hi).1
          have hl' : Hf.get b ≠ none := q3.live b (by omega) (by rw [h1]; simp)
          cases hy : Hf.get b with
          | none => exact absurd hy hl'
          | some y =>
            have := (hfg b y hy).2
            rw [hb] at this; cases this
            have := q3.ro b o i hy hro hi
            exact ⟨by rw [hin b o' hp]; exact this.1, this.2⟩
        · have hp' : ∀ o', (b, o') ∉ e.post := fun o' h => hp ⟨o', h⟩
          exact ⟨by rw [hout b hp']; exact hb, hsame b o i hb hp' hi⟩
  · cases hb
end
end AEv

namespace AEv
open Go Go.RowKit
section
variable {P : Program}
theorem refFrees_rels {μ μ' : Mu} : ∀ {cs : List AV} {c : Array Value} {base : Nat}, refFrees cs = true → CellsRel μ cs c base → CellsRel μ' cs c base := fun {cs c base} h hc j v hj => by
  obtain ⟨u, h1, h2⟩ := hc j v hj
  refine ⟨u, h1, ?_⟩
  have hall : ∀ (l : List AV) (k : Nat), refFrees l = true → l[k]? = some v → refFree v = true := fun l => by
    induction l with
    | nil => intro k _ hk; simp at hk
    | cons a l ih =>
      intro k hl hk
      simp only [refFrees, Bool.and_eq_true] at hl
      cases k with
      | zero => simp at hk; subst hk; exact hl.1
      | succ k => exact ih k hl.2 (by simpa using hk)
  exact refFree_rel _ _ (hall cs j h hj) h2
theorem one_ok (hf : Fit P) {ts : List Tab} (hts : ∀ t ∈ ts, t.g < P.globals.size) {intr : Nat → List AV → AHeap → Option (AV × AHeap)} (hi : IntrOK P intr) {n f : Nat} {args : List AV} (hargs : refFrees args = true) (v : Nat → AV) {cs : List AV} {el : TypeId} {k : BK} {lo up : Nat} (hcs : refFrees cs = true)
    (hvr : ∀ (μ1 μ' : Mu) (c d : Nat) (u : Value), μ' d = μ1 c → VRel μ1 (v c) u → VRel μ' (v d) u)
    (hrun : ∀ els, ∃ c H1, callN P intr n (.fn f) args (heapT P.globals.size els ts []) = .ret (v c) H1 ∧ H1.get c = some (.cells cs el k lo up) ∧ P.globals.size ≤ c)
    {H : AHeap} (hin : tabsIn H ts = true) {μ : Mu} {w : World} {vs : List Value} (hh : HRel μ H w) (hg : GRel P μ) (hv : VRels μ args vs) :
    FnGoes P f vs w (Ends μ H w (.ret (v H.n) (H.push (.cells cs el k lo up)))) := by
  obtain ⟨els, hels⟩ : ∃ els : Nat → Nat, ∀ g, els g = match w.heap[g]? with | some (.cells _ el _) => el | _ => 0 := ⟨_, fun _ => rfl⟩
  obtain ⟨c0, H1, hr, hc0, hcG⟩ := hrun els
  have hG : P.globals.size ≤ w.heap.size := by
    cases hsz : P.globals.size with
    | zero => exact Nat.zero_le _
    | succ g =>
      obtain ⟨i, h1, h2, h3⟩ := hg g (by omega)
      have := (hh.lt _ i h1).2
      omega
  have hta : ∀ t ∈ ts, t.g < P.globals.size ∧ TabAt w els t := fun t ht => by
    refine ⟨hts t ht, ?_⟩
    obtain ⟨el, hget⟩ := isTab_get (tabsIn_mem hin t ht)
    obtain ⟨i, h1, h2, h3⟩ := hg t.g (hts t ht)
    obtain ⟨c, flo, fhi, k1, k2, k3, _⟩ := hh.rel _ _ i hget h1
    rw [h2] at k1
    rw [h3] at k2
    refine ⟨c, (flo, fhi), by rw [hels, k1], fun j x hj => ?_⟩
    obtain ⟨u, hu1, hu2⟩ := k2 j _ (by rw [u8s_get, hj]; rfl)
    rw [Nat.zero_add] at hu1
    rw [hu1, hu2]
  obtain ⟨s1, s2, s3⟩ := start_tabs (P := P) hG els ts hta [] (by simp)
  have hgo := (run_ok hf hi n).fn f args (heapT P.globals.size els ts []) (by rw [hr]; rfl) _ w vs s1 s2 (refFrees_rel _ _ hargs hv)
  rw [hr] at hgo
  refine hgo.mono fun en w' hen => ?_
  obtain ⟨μ1, u, rfl, q1, q2, q3⟩ := hen
  have hold : ∀ r, r < w.heap.size → w'.heap[r]? = w.heap[r]? := (q3.below s3 s1).block
  obtain ⟨μ', hμ'⟩ : ∃ μ' : Mu, ∀ b, μ' b = if b < H.n then μ b else if b = H.n then μ1 c0 else none := ⟨_, fun _ => rfl⟩
  have hle : Le μ μ' := fun b i hb => by rw [hμ', if_pos (hh.lt b i hb).1]; exact hb
  have hnew : ∀ b i, ¬ b < H.n → μ' b = some i → b = H.n ∧ μ1 c0 = some i ∧ w.heap.size ≤ i.blk := fun b i hb h1 => by
    rw [hμ', if_neg hb] at h1
    by_cases hbn : b = H.n
    · rw [if_pos hbn] at h1
      refine ⟨hbn, h1, ?_⟩
      have hm : muT P.globals.size (szW w) (([] : List (Img × List AV × Nat)).map (·.1)) c0 = none := by
        unfold muT; rw [if_neg (by omega)]; rfl
      rcases (q3.new _ i hm h1).2 with h3 | ⟨c, o, j, h3, h4, _⟩
      · exact h3
      · have := s3 c o h3; rw [h4] at this; cases this
    · rw [if_neg hbn] at h1; cases h1
  have hget : ∀ b, (H.push (.cells cs el k lo up)).get b = if b = H.n then some (.cells cs el k lo up) else H.get b := fun b => by
    by_cases e : b = H.n
    · rw [if_pos e, e]; exact HT.get_set _ _ _ _ _ (Nat.lt_succ_self _) |>.trans (if_pos rfl)
    · rw [if_neg e]; exact HT.get_set _ _ _ _ _ (Nat.lt_succ_self _) |>.trans (if_neg e)
  have hgn : (H.push (.cells cs el k lo up)).n = H.n + 1 := rfl
  have hne : ∀ b, b < H.n → ¬ b = H.n := fun b h => by omega
  refine ⟨μ', u, rfl, hvr μ1 μ' c0 H.n u (by rw [hμ', if_neg (by omega), if_pos rfl]) q1, ⟨fun b o i hb hi' => ?_, fun b c i j hb hc hi' hj hij => ?_, fun b i hi' => ?_, fun b hb => ?_⟩, ?_⟩
  · by_cases h1 : b < H.n
    · rw [hget, if_neg (hne b h1)] at hb
      rw [hμ', if_pos h1] at hi'
      exact (hh.rel b o i hb hi').mono hle (hold _ (hh.lt b i hi').2)
    · obtain ⟨rfl, h2, _⟩ := hnew b i h1 hi'
      rw [hget, if_pos rfl] at hb
      cases hb
      obtain ⟨c, flo, fhi, k1, k2, k3⟩ := q2.rel c0 _ i hc0 h2
      exact ⟨c, flo, fhi, k1, refFrees_rels hcs k2, k3⟩
  · obtain ⟨oc, hc, hro⟩ := hc
    by_cases h1 : b < H.n
    · rw [hget, if_neg (hne b h1)] at hb
      rw [hμ', if_pos h1] at hi'
      by_cases h2 : c < H.n
      · rw [hget, if_neg (hne c h2)] at hc
        rw [hμ', if_pos h2] at hj
        exact hh.inj b c i j hb ⟨oc, hc, hro⟩ hi' hj hij
      · have q := (hnew c j h2 hj).2.2
        have := (hh.lt b i hi').2
        omega
    · have q := hnew b i h1 hi'
      by_cases h2 : c < H.n
      · rw [hμ', if_pos h2] at hj
        have := (hh.lt c j hj).2
        have := q.2.2
        omega
      · have q' := hnew c j h2 hj
        rw [q.1, q'.1]
  · by_cases h1 : b < H.n
    · rw [hμ', if_pos h1] at hi'
      exact ⟨by rw [hgn]; omega, Nat.lt_of_lt_of_le (hh.lt b i hi').2 q3.size⟩
    · have q := hnew b i h1 hi'
      exact ⟨by rw [hgn]; omega, (q2.lt _ i q.2.1).2⟩
  · rw [hgn] at hb
    rw [hget, if_neg (by omega)]
    exact hh.bound b (by omega)
  · refine ⟨hle, q3.size, by rw [hgn]; omega, fun b hb hl => ?_, fun b hb _ => ?_, fun r hr _ => hold r hr, fun b i h1 h2 => ?_, fun b o i hb _ hi' => ?_, q3.os, q3.out, q3.tape, q3.drawn⟩
    · rw [hget, if_neg (hne b hb)] at hl; exact hl
    · rw [hget, if_neg (hne b hb)]
    · have hb : ¬ b < H.n := fun hb => by rw [hμ', if_pos hb, h1] at h2; cases h2
      exact ⟨by omega, .inl (hnew b i hb h2).2.2⟩
    · refine ⟨?_, hold _ (hh.lt b i hi').2⟩
      rw [hget, if_neg (hne b (hh.lt b i hi').1)]; exact hb
end
end AEv

namespace AEv
open Go Go.RowKit

section
variable {P : Program}
end
end AEv

namespace AEv
open Go

section
variable {P : Program}
theorem store1_rel (P : Program) {μ : Mu} {H : AHeap} {w : World} (hh : HRel μ H w) {b off : Nat} {i : Img} (hi : μ b = some i) {v : AV} {u : Value} (hv : VRel μ v u) (hu : u.oneCell' = true) {H' : AHeap}
    (h : AEv.storeCells H b off [v] = some H') {old : Value} (hold : w.cell? ⟨i.blk, i.base + off, none⟩ = some old) :
    w.frozen? ⟨i.blk, i.base + off, none⟩ = false ∧ HRel μ H' (w.setCell ⟨i.blk, i.base + off, none⟩ u) ∧ Adv μ H w μ H' (w.setCell ⟨i.blk, i.base + off, none⟩ u) := by
  obtain ⟨w', e1, e2, e3⟩ := storeCells_rel (P := P) hh hi (vs := [v]) (us := [u]) ⟨u, [], rfl, hv, rfl⟩ h
  have q := run_store P w ⟨i.blk, i.base + off, none⟩ u .plain hu
  rw [hold] at q
  cases hf : w.frozen? ⟨i.blk, i.base + off, none⟩ with
  | true =>
    rw [hf] at q
    simp only [if_true] at q
    simp only [_root_.Go.storeCells, Sem.run_bind, add_plain, Nat.add_zero, q] at e1
    cases e1
  | false =>
    rw [hf] at q
    simp only [Bool.false_eq_true, if_false] at q
    simp only [_root_.Go.storeCells, Sem.run_bind, add_plain, Nat.add_zero, q, Result.andThen_ok, Sem.run_pure] at e1
    cases e1
    exact ⟨rfl, e2, e3⟩
theorem load1_cell {μ : Mu} {H : AHeap} {w : World} (hh : HRel μ H w) {b off : Nat} {i : Img} (hi : μ b = some i) {v : AV} (hl : load1 H b off = some v) : ∃ u, w.cell? ⟨i.blk, i.base + off, none⟩ = some u ∧ VRel μ v u := by
  unfold load1 at hl
  split at hl
  · rename_i cs el kk lo hi' hbb
    rw [nth_eq] at hl
    exact cell_rel hh hi hbb hl
  · cases hl
structure AtN where
  ld : Nat
  st : Nat
  cas : Nat
  add : Nat
structure AtOne (P : Program) (f : Nat) (e : Array Value → Sem Value) : Prop where
  ex : ∃ fn, P.funcs[f]? = some fn ∧ (fn.name == "runtime.NumGoroutine") = false ∧ fn.body.isNone = true ∧ Extern.findNext fn = none ∧ Extern.find fn = some e
structure AtOK (P : Program) (N : AtN) : Prop where
  ld : AtOne P N.ld (Extern.Atomic.loadT (.int .u32))
  st : AtOne P N.st Extern.Atomic.storeT
  cas : AtOne P N.cas (Extern.Atomic.casT (.int .i32))
  add : AtOne P N.add (Extern.Atomic.update (Op.intArith .add) .i32 true)
/-- What an atomic function does. -/
def atI (N : AtN) (f : Nat) (args : List AV) (H : AHeap) : Option (AV × AHeap) := match args with
  | [.ptr b o] => match Nat.beq f N.ld with
    | true => match load1 H b o with
      | some (.int .u32 n) => some (.int .u32 n, H)
      | _ => none
    | false => none
  | [.ptr b o, .int .u32 n] => match Nat.beq f N.st with
    | true => match load1 H b o with
      | some (.int .u32 _) => match AEv.storeCells H b o [.int .u32 n] with
        | some H' => some (.tup [], H')
        | none => none
      | _ => none
    | false => none
  | [.ptr b o, .int .i32 n] => match Nat.beq f N.add with
    | true => match load1 H b o with
      | some (.int .i32 x) => match AEv.storeCells H b o [.int .i32 (IntKind.wrap .i32 (x + n))] with
        | some H' => some (.int .i32 (IntKind.wrap .i32 (x + n)), H')
        | none => none
      | _ => none
    | false => none
  | [.ptr b o, .int .i32 x, .int .i32 y] => match Nat.beq f N.cas with
    | true => match load1 H b o with
      | some (.int .i32 x') => match eqI x' x with
        | true => match AEv.storeCells H b o [.int .i32 y] with
          | some H' => some (.bool true, H')
          | none => none
        | false => none
      | _ => none
    | false => none
  | _ => none
theorem atI_ok {N : AtN} (hN : AtOK P N) : IntrOK P (atI N) := by
  intro f args H v H' hx μ w vs hh hG hv
  unfold atI at hx
  split at hx
  · rename_i b o
    split at hx
    · rename_i hf
      obtain rfl := Nat.eq_of_beq_eq_true hf
      split at hx
      · rename_i n hl
        cases hx
        obtain ⟨_, _, rfl, ⟨i, hi, rfl⟩, rfl⟩ := hv
        obtain ⟨u, hu, hur⟩ := load1_cell hh hi hl
        have : u = .int .u32 n := hur
        subst this
        obtain ⟨fn, h1, h2, h3, h4, h5⟩ := hN.ld.ex
        exact .inl ⟨_, w, run_call_load h1 h2 h3 h4 .u32 h5 hu, ⟨μ, _, rfl, rfl, hh, Adv.refl _ _ _⟩⟩
      · cases hx
    · cases hx
  · rename_i b o n
    split at hx
    · rename_i hf
      obtain rfl := Nat.eq_of_beq_eq_true hf
      split at hx
      · rename_i x hl
        split at hx
        · rename_i H2 hs
          cases hx
          obtain ⟨_, _, rfl, ⟨i, hi, rfl⟩, _, _, rfl, h2, rfl⟩ := hv
          have e2 := (show _ = Value.int .u32 n from h2)
          subst e2
          obtain ⟨u, hu, hur⟩ := load1_cell hh hi hl
          obtain ⟨q1, q2, q3⟩ := store1_rel P hh hi (v := .int .u32 n) (u := .int .u32 n) rfl rfl hs hu
          obtain ⟨fn, h1, h2, h3, h4, h5⟩ := hN.st.ex
          exact .inl ⟨_, _, run_call_store h1 h2 h3 h4 h5 hu q1, ⟨μ, _, rfl, ⟨[], rfl, rfl⟩, q2, q3⟩⟩
        · cases hx
      · cases hx
    · cases hx
  · rename_i b o n
    split at hx
    · rename_i hf
      obtain rfl := Nat.eq_of_beq_eq_true hf
      split at hx
      · rename_i x hl
        split at hx
        · rename_i H2 hs
          cases hx
          obtain ⟨_, _, rfl, ⟨i, hi, rfl⟩, _, _, rfl, h2, rfl⟩ := hv
          have e2 := (show _ = Value.int .i32 n from h2)
          subst e2
          obtain ⟨u, hu, hur⟩ := load1_cell hh hi hl
          have : u = .int .i32 x := hur
          subst this
          obtain ⟨q1, q2, q3⟩ := store1_rel P hh hi (v := .int .i32 (IntKind.wrap .i32 (x + n))) (u := .int .i32 (IntKind.wrap .i32 (x + n))) rfl rfl hs hu
          obtain ⟨fn, h1, h2, h3, h4, h5⟩ := hN.add.ex
          exact .inl ⟨_, _, run_call_add h1 h2 h3 h4 .i32 h5 hu q1 rfl, ⟨μ, _, rfl, rfl, q2, q3⟩⟩
        · cases hx
      · cases hx
    · cases hx
  · rename_i b o x y
    split at hx
    · rename_i hf
      obtain rfl := Nat.eq_of_beq_eq_true hf
      split at hx
      · rename_i x' hl
        split at hx
        · rename_i he
          split at hx
          · rename_i H2 hs
            cases hx
            have hxx : x' = x := by simpa [eqI] using he
            subst hxx
            obtain ⟨_, _, rfl, ⟨i, hi, rfl⟩, _, _, rfl, h2, _, _, rfl, h3, rfl⟩ := hv
            have e2 := (show _ = Value.int .i32 x' from h2)
            subst e2
            have e3 := (show _ = Value.int .i32 y from h3)
            subst e3
            obtain ⟨u, hu, hur⟩ := load1_cell hh hi hl
            have : u = .int .i32 x' := hur
            subst this
            obtain ⟨q1, q2, q3⟩ := store1_rel P hh hi (v := .int .i32 y) (u := .int .i32 y) rfl rfl hs hu
            obtain ⟨fn, h1, h2, h3, h4, h5⟩ := hN.cas.ex
            exact .inl ⟨_, _, run_call_cas_hit h1 h2 h3 h4 .i32 h5 hu q1, ⟨μ, _, rfl, rfl, q2, q3⟩⟩
          · cases hx
        · cases hx
      · cases hx
    · cases hx
  · cases hx
/-- The race detector's marks: nothing. -/
structure RcN where
  dis : Nat
  en : Nat
  acq : Nat
  rel : Nat
structure RcOK (P : Program) (N : RcN) : Prop where
  dis : AtOne P N.dis (fun _ => do mark .disable; pure Extern.Race.none_)
  en : AtOne P N.en (fun _ => do mark .enable; pure Extern.Race.none_)
  acq : AtOne P N.acq (Extern.Race.marked .acquire)
  rel : AtOne P N.rel (Extern.Race.marked .releaseMerge)
def rcI (N : RcN) (f : Nat) (args : List AV) (H : AHeap) : Option (AV × AHeap) := match args with
  | [] => match Nat.beq f N.dis with
    | true => some (.tup [], H)
    | false => match Nat.beq f N.en with
      | true => some (.tup [], H)
      | false => none
  | [.ptr b o] => match Nat.beq f N.acq with
    | true => some (.tup [], H)
    | false => match Nat.beq f N.rel with
      | true => some (.tup [], H)
      | false => none
  | _ => none
theorem rcI_ok {N : RcN} (hN : RcOK P N) : IntrOK P (rcI N) := by
  intro f args H v H' hx μ w vs hh hG hv
  unfold rcI at hx
  split at hx
  · have hvs : vs = [] := hv
    subst hvs
    split at hx
    · rename_i hf
      obtain rfl := Nat.eq_of_beq_eq_true hf
      cases hx
      obtain ⟨fn, h1, h2, h3, h4, h5⟩ := hN.dis.ex
      exact .inl ⟨_, w, run_call_mark0 h1 h2 h3 h4 _ h5 w, ⟨μ, _, rfl, ⟨[], rfl, rfl⟩, hh, Adv.refl _ _ _⟩⟩
    · split at hx
      · rename_i hf
        obtain rfl := Nat.eq_of_beq_eq_true hf
        cases hx
        obtain ⟨fn, h1, h2, h3, h4, h5⟩ := hN.en.ex
        exact .inl ⟨_, w, run_call_mark0 h1 h2 h3 h4 _ h5 w, ⟨μ, _, rfl, ⟨[], rfl, rfl⟩, hh, Adv.refl _ _ _⟩⟩
      · cases hx
  · rename_i b o
    obtain ⟨_, _, rfl, ⟨i, hi, rfl⟩, rfl⟩ := hv
    split at hx
    · rename_i hf
      obtain rfl := Nat.eq_of_beq_eq_true hf
      cases hx
      obtain ⟨fn, h1, h2, h3, h4, h5⟩ := hN.acq.ex
      exact .inl ⟨_, w, run_call_marked h1 h2 h3 h4 _ h5 _ w, ⟨μ, _, rfl, ⟨[], rfl, rfl⟩, hh, Adv.refl _ _ _⟩⟩
    · split at hx
      · rename_i hf
        obtain rfl := Nat.eq_of_beq_eq_true hf
        cases hx
        obtain ⟨fn, h1, h2, h3, h4, h5⟩ := hN.rel.ex
        exact .inl ⟨_, w, run_call_marked h1 h2 h3 h4 _ h5 _ w, ⟨μ, _, rfl, ⟨[], rfl, rfl⟩, hh, Adv.refl _ _ _⟩⟩
      · cases hx
  · cases hx
end
end AEv

namespace AEv
open Go Go.RowKit

theorem HRel.setRo {μ : Mu} {H : AHeap} {w : World} (hh : HRel μ H w) (hro : Roed H) {g : Nat} {i : Img} (hi : μ g = some i) {cs : List AV} {c : Array Value} {el : TypeId} {fz : Nat × Nat}
    (hW : w.heap[i.blk]? = some (.cells c el fz)) (hc : CellsRel μ cs c i.base) (hs : i.base + i.size = c.size) :
    HRel μ (H.set g (some (.cells cs el .ro 0 0))) w ∧ Roed (H.set g (some (.cells cs el .ro 0 0))) := by
  have hro' : Roed (H.set g (some (.cells cs el .ro 0 0))) := fun b x hb => by
    rw [AHeap.get_set] at hb
    by_cases e : b = g
    · rw [if_pos e] at hb; cases hb; rfl
    · rw [if_neg e] at hb; exact hro b x hb
  refine ⟨⟨fun b x j hb hj => ?_, fun b c j k hb hc => ?_, fun b j hj => ?_, fun b hb => ?_⟩, hro'⟩
  · rw [AHeap.get_set] at hb
    by_cases e : b = g
    · subst e
      rw [if_pos rfl] at hb; cases hb
      rw [hi] at hj; cases hj
      exact ⟨c, fz.1, fz.2, hW, hc, hs, trivial⟩
    · rw [if_neg e] at hb; exact hh.rel b x j hb hj
  · obtain ⟨x, hx, hr⟩ := hc
    have := hro' c x hx
    rw [this] at hr; cases hr
  · have := hh.lt b j hj
    exact ⟨by simpa using this.1, this.2⟩
  · rw [AHeap.get_set, if_neg]
    · exact hh.bound b (by simpa using hb)
    · intro e; subst e
      have := (hh.lt b i hi).1
      simp at hb; omega
/-- A table: its variable, its integers' kind, they themselves. -/
structure TabK where
  g : Nat
  k : IntKind
  xs : List Nat
def TabK.cells (t : TabK) : List AV := t.xs.map fun x => .int t.k (Int.ofNat x)
def isTabK (t : TabK) : Option AObj → Bool
  | some (.cells cs _ .ro 0 0) => AV.beqs cs t.cells
  | _ => false
theorem isTabK_get {t : TabK} {o : Option AObj} (h : isTabK t o = true) : ∃ el, o = some (.cells t.cells el .ro 0 0) := by
  unfold isTabK at h
  split at h
  · rename_i cs el
    exact ⟨el, by rw [beqs_eq _ _ h]⟩
  · cases h
def tabsK (h : AHeap) : List TabK → Bool
  | [] => true
  | t :: l => match isTabK t (h.get t.g) with
    | true => tabsK h l
    | false => false
def heapK (els : Nat → Nat) : List TabK → AHeap → AHeap
  | [], h => h
  | t :: l, h => heapK els l (h.set t.g (some (.cells t.cells (els t.g) .ro 0 0)))
section
variable {P : Program}
end
end AEv

namespace AEv
open Go Go.ChangeShapes Go.WideShapes Go.ChangeAt Go.RowKit

def TabKAt (W : World) (els : Nat → Nat) (t : TabK) : Prop := ∃ c fz, W.heap[t.g]? = some (.cells c (els t.g) fz) ∧ ∀ (j : Nat) (x : Nat), t.xs[j]? = some x → c[j]? = some (.int t.k (Int.ofNat x))
theorem tabK_laid {P : Program} {W : World} {n : String} {d : DataW Unit} {g t N e fuel : Nat} {k : IntKind} {cs : Array Value} {p : List MemPlace} (ht : P.underlying t = some (.array N e)) (he : P.underlying e = some (.int k)) (hc : P.cellsOf e = 1)
    (hg : P.globalNamed n = some g) (hv : W.var? P n = some cs) (hd : DataW.trod (fun _ => ()) P W 0 (fun _ => true) false fuel t cs.toList = some (d, p)) (xs : List Nat) (hx : d = .agg (xs.map fun x => .lit (.int k (Int.ofNat x)))) :
    TabKAt W (elsW W) ⟨g, k, xs⟩ := by
  unfold World.var? at hv
  rw [hg, Option.bind_some] at hv
  split at hv
  · rename_i cs' el fz hb
    cases hv
    refine ⟨cs, fz, by unfold elsW; rw [hb], fun r x hr => ?_⟩
    obtain ⟨ys, m, _, ex, _, hl, hel⟩ := DataW.trod_array ht hd
    have e3 : (ys.map (·.1)) = xs.map fun x => .lit (.int k (Int.ofNat x)) := by
      have := (Prod.mk.inj ex).1
      rw [hx] at this
      exact (DataW.agg.inj this).symm
    have hlen : ys.length = xs.length := by simpa using congrArg List.length e3
    have hrl : r < xs.length := (List.getElem?_eq_some_iff.1 hr).1
    have hE := hel r (by omega)
    rw [hc, Nat.mul_one, List.getElem?_eq_getElem (by omega)] at hE
    obtain ⟨z, e1, e2, _⟩ := DataW.trod_int he hE
    have e4 : (ys.map (·.1))[r]? = (xs.map fun x => (DataW.lit (.int k (Int.ofNat x)) : DataW Unit))[r]? := by rw [e3]
    rw [List.getElem?_map, List.getElem?_map, List.getElem?_eq_getElem (by omega : r < ys.length), hr, e2] at e4
    have hz : z = Int.ofNat x := by simpa using e4
    subst hz
    have h0 : ((cs.toList.drop r).take 1)[0]? = some (.int k (Int.ofNat x)) := by rw [e1]; rfl
    have h1 : cs.toList[r]? = some (.int k (Int.ofNat x)) := by simpa using h0
    simpa using h1
  · cases hv
section
variable {P : Program}
theorem heapK_start {w : World} {els : Nat → Nat} : ∀ (tk : List TabK) (h : AHeap), (∀ t ∈ tk, t.g < P.globals.size ∧ TabKAt w els t) → HRel (muT P.globals.size (szW w) []) h w → Roed h → HRel (muT P.globals.size (szW w) []) (heapK els tk h) w ∧ Roed (heapK els tk h)
  | [], h, _, r1, r2 => ⟨r1, r2⟩
  | t :: l, h, ht, r1, r2 => by
    obtain ⟨htg, c, fz, k1, k2⟩ := ht t (by simp)
    have p1 : muT P.globals.size (szW w) [] t.g = some ⟨t.g, 0, szW w t.g⟩ := by unfold muT; rw [if_pos htg]
    have e2 : szW w t.g = c.size := by unfold szW; rw [k1]
    have s := r1.setRo r2 p1 (cs := t.cells) k1 (fun j v hj => by
      unfold TabK.cells at hj
      rw [List.getElem?_map] at hj
      cases hx : t.xs[j]? with
      | none => rw [hx] at hj; cases hj
      | some x =>
        rw [hx] at hj; cases hj
        exact ⟨_, by rw [Nat.zero_add]; exact k2 j x hx, rfl⟩) (by show 0 + szW w t.g = c.size; rw [e2]; simp)
    exact heapK_start l _ (fun t' ht' => ht t' (by simp [ht'])) s.1 s.2
end
end AEv

namespace AEv
open Go Go.RowKit

def preG (els : Nat → Nat) (ts : List Tab) (tk : List TabK) : List (Nat × AObj) := ts.map (fun t => (t.g, t.obj els)) ++ tk.map fun t => (t.g, .cells t.cells (els t.g) .ro 0 0)
def EntF.withG (e : EntF) (els : Nat → Nat) (ts : List Tab) (tk : List TabK) : EntF := ⟨e.f, e.args, e.n, preG els ts tk ++ e.pre, e.v, e.n', preG els ts tk ++ e.post⟩
def aboveB (n : Nat) : List (Nat × AObj) → Bool
  | [] => true
  | (b, _) :: m => match Nat.ble n b with
    | true => aboveB n m
    | false => false
theorem aboveB_mem {n : Nat} : ∀ {m : List (Nat × AObj)}, aboveB n m = true → ∀ b o, (b, o) ∈ m → n ≤ b
  | [], _, _, _, hm => by cases hm
  | (c, o) :: m, h, b, x, hm => by
    unfold aboveB at h
    split at h
    · rename_i h1
      rcases List.mem_cons.1 hm with e | hm
      · cases e; rw [Nat.ble_eq] at h1; exact h1
      · exact aboveB_mem h b x hm
    · cases h
def entG (P : Program) (els : Nat → Nat) (ts : List Tab) (tk : List TabK) (intr : Nat → List AV → AHeap → Option (AV × AHeap)) (k : Nat) (e : EntF) : Bool :=
  match callN P intr k (.fn e.f) e.args (mkH e.n (preG els ts tk ++ e.pre)) with
  | .ret v H => AV.beq v e.v && (Nat.beq H.n e.n' && (agreeB H e.post && (keysIn e.post e.pre && (belowB e.n e.pre && Nat.ble P.globals.size e.n))))
  | _ => false
def EntGOK (P : Program) (ts : List Tab) (tk : List TabK) (e : EntF) : Prop := aboveB P.globals.size e.post = true ∧ ∃ (intr : Nat → List AV → AHeap → Option (AV × AHeap)) (k : Nat), IntrOK P intr ∧ ∀ els, entG P els ts tk intr k e = true
def intrG (ts : List Tab) (tk : List TabK) (T : List EntF) (f : Nat) (args : List AV) (h : AHeap) : Option (AV × AHeap) :=
  match intrF T f args h with
  | some r => match tabsIn h ts && tabsK h tk with
    | true => some r
    | false => none
  | none => none
theorem beqs_u8 : ∀ xs : List Nat, AV.beqs (u8s xs) (u8s xs) = true
  | [] => rfl
  | x :: xs => by
    show (AV.beq (.int .u8 (Int.ofNat x)) (.int .u8 (Int.ofNat x)) && AV.beqs (u8s xs) (u8s xs)) = true
    rw [beqs_u8 xs]
    simp [AV.beq, eqI]
theorem beqs_ints (k : IntKind) : ∀ xs : List Nat, AV.beqs (xs.map fun x => AV.int k (Int.ofNat x)) (xs.map fun x => AV.int k (Int.ofNat x)) = true
  | [] => rfl
  | x :: xs => by
    show (AV.beq (.int k (Int.ofNat x)) (.int k (Int.ofNat x)) && AV.beqs _ _) = true
    rw [beqs_ints k xs]
    simp [AV.beq, eqI]
theorem agreeB_of {h : AHeap} : ∀ {l : List (Nat × AObj)}, (∀ b o, (b, o) ∈ l → isCM o = true ∧ beqO (some o) (h.get b) = true) → agreeB h l = true
  | [], _ => rfl
  | (b, o) :: l, hl => by
    obtain ⟨h1, h2⟩ := hl b o (by simp)
    unfold agreeB
    simp only [h1, h2]
    exact agreeB_of fun b' o' hm => hl b' o' (by simp [hm])
theorem agreeB_all {h : AHeap} : ∀ {l : List (Nat × AObj)}, agreeB h l = true → ∀ b o, (b, o) ∈ l → isCM o = true ∧ beqO (some o) (h.get b) = true
  | [], _, _, _, hm => by cases hm
  | (c, o) :: l, ha, b, x, hm => by
    unfold agreeB at ha
    split at ha
    · rename_i h1
      split at ha
      · rename_i h2
        rcases List.mem_cons.1 hm with e | hm
        · cases e; exact ⟨h1, h2⟩
        · exact agreeB_all ha b x hm
      · cases ha
    · cases ha
theorem tabsK_mem : ∀ {tk : List TabK} {h : AHeap}, tabsK h tk = true → ∀ t ∈ tk, isTabK t (h.get t.g) = true
  | [], h, _, t, ht => by cases ht
  | x :: ts, h, hi, t, ht => by
    simp only [tabsK] at hi
    split at hi
    · rename_i h1
      rcases List.mem_cons.1 ht with rfl | ht
      · exact h1
      · exact tabsK_mem hi t ht
    · cases hi
theorem Ends.congr {μ : Mu} {H H1 H2 : AHeap} {w w' : World} {v : AV} {e : Ending} (hg : ∀ b, H1.get b = H2.get b) (hn : H1.n = H2.n) (h : Ends μ H w (.ret v H1) e w') : Ends μ H w (.ret v H2) e w' := by
  obtain ⟨μ', u, rfl, h1, h2, h3⟩ := h
  refine ⟨μ', u, rfl, h1, ⟨fun b o i hb => h2.rel b o i (by rw [hg]; exact hb), fun b c i j hb hc => h2.inj b c i j (by rw [hg]; exact hb) (by rw [hg]; exact hc), fun b i hi => by rw [← hn]; exact h2.lt b i hi, fun b hb => by rw [← hg]; exact h2.bound b (by rw [hn]; exact hb)⟩, ?_⟩
  exact ⟨h3.le, h3.size, by rw [← hn]; exact h3.n, fun b hb hl => h3.live b hb (by rw [hg]; exact hl), fun b hb hm => (hg b).symm.trans (h3.idle b hb hm), h3.old, h3.new, fun b o i hb hr hi => ⟨(hg b).symm.trans (h3.ro b o i hb hr hi).1, (h3.ro b o i hb hr hi).2⟩, h3.os, h3.out, h3.tape, h3.drawn⟩
/-- A part of the memory. -/
theorem HRel.part {μ : Mu} {H : AHeap} {w : World} (hh : HRel μ H w) {pre : List (Nat × AObj)} (hag : agreeB H pre = true) (hbel : ∀ b o, (b, o) ∈ pre → b < H.n) :
    HRel μ (mkH H.n pre) w ∧ ∀ b o, (mkH H.n pre).get b = some o → (b, o) ∈ pre ∧ H.get b = some o := by
  have hpre := agreeB_mem hag
  have hfg : ∀ b o, (mkH H.n pre).get b = some o → (b, o) ∈ pre ∧ H.get b = some o := fun b o h => by
    rw [mkH_put] at h
    rcases putL_get (emptyHeap H.n) pre b with ⟨o', h1, h2⟩ | ⟨h1, h2⟩
    · rw [h] at h2; cases h2; exact ⟨h1, hpre b o h1⟩
    · rw [h, emptyHeap_get] at h2; cases h2
  have hfn : (mkH H.n pre).n = H.n := by rw [mkH_put, putL_n]; rfl
  refine ⟨⟨fun b o i h1 h2 => hh.rel b o i (hfg b o h1).2 h2, fun b c i j h1 h2 => by
    obtain ⟨o, h3, h4⟩ := h2
    refine hh.inj b c i j ?_ ⟨o, (hfg c o h3).2, h4⟩
    cases hx : (mkH H.n pre).get b with
    | none => exact absurd hx h1
    | some y => rw [(hfg b y hx).2]; simp, fun b i h1 => by
    have := hh.lt b i h1
    exact ⟨by rw [hfn]; exact this.1, this.2⟩, fun b hb' => by
    rw [hfn] at hb'
    cases hx : (mkH H.n pre).get b with
    | none => rfl
    | some y =>
      have := hbel b y (hfg b y hx).1
      omega⟩, hfg⟩
theorem keysIn_of {l : List (Nat × AObj)} : ∀ {m : List (Nat × AObj)}, (∀ b o, (b, o) ∈ m → ∃ o', (b, o') ∈ l) → keysIn l m = true
  | [], _ => rfl
  | (b, o) :: m, h => by
    obtain ⟨o', ho⟩ := h b o (by simp)
    unfold keysIn
    have : (l.any fun x => Nat.beq x.1 b) = true := List.any_eq_true.2 ⟨_, ho, by simp⟩
    rw [this]
    exact keysIn_of fun b' x hm => h b' x (by simp [hm])
theorem belowB_of {n : Nat} : ∀ {m : List (Nat × AObj)}, (∀ b o, (b, o) ∈ m → b < n) → belowB n m = true
  | [], _ => rfl
  | (b, o) :: m, h => by
    unfold belowB
    have : Nat.blt b n = true := by rw [Nat.blt_eq]; exact h b o (by simp)
    rw [this]
    exact belowB_of fun b' x hm => h b' x (by simp [hm])
section
variable {P : Program}
theorem intrG_ok (hf : Fit P) {ts : List Tab} (hts : ∀ t ∈ ts, t.g < P.globals.size) {tk : List TabK} (htk : ∀ t ∈ tk, t.g < P.globals.size) {T : List EntF} (hT : ∀ e ∈ T, EntGOK P ts tk e) : IntrOK P (intrG ts tk T) := by
  intro f args H v H' hx μ w vs hh hg hv
  unfold intrG at hx
  split at hx
  · rename_i r hr
    split at hx
    · rename_i hin0
      obtain ⟨hin, hink⟩ := (Bool.and_eq_true _ _).mp hin0
      cases hx
      obtain ⟨e, he, rfl, rfl, hn, hag, rfl, rfl⟩ := intrF_mem hr
      obtain ⟨hab, intr, k, hi, hb⟩ := hT e he
      obtain ⟨els, hels⟩ : ∃ els : Nat → Nat, ∀ g, els g = match H.get g with | some (.cells _ el _ _ _) => el | _ => 0 := ⟨_, fun _ => rfl⟩
      have htab : ∀ b o, (b, o) ∈ preG els ts tk → H.get b = some o ∧ isCM o = true ∧ beqO (some o) (some o) = true ∧ b < P.globals.size := fun b o hm => by
        unfold preG at hm
        rcases List.mem_append.1 hm with hm | hm
        · obtain ⟨t, ht, e1⟩ := List.mem_map.1 hm
          cases e1
          obtain ⟨el, hget⟩ := isTab_get (tabsIn_mem hin t ht)
          have : els t.g = el := by rw [hels, hget]
          unfold Tab.obj
          rw [this]
          refine ⟨hget, rfl, ?_, hts t ht⟩
          simp [beqO, beqs_u8]
        · obtain ⟨t, ht, e1⟩ := List.mem_map.1 hm
          cases e1
          obtain ⟨el, hget⟩ := isTabK_get (tabsK_mem hink t ht)
          have : els t.g = el := by rw [hels, hget]
          rw [this]
          refine ⟨hget, rfl, ?_, htk t ht⟩
          have := beqs_ints t.k t.xs
          have h' : AV.beqs t.cells t.cells = true := this
          simp [beqO, h']
      have hag' : agreeB H (e.withG els ts tk).pre = true := agreeB_of fun b o hm => by
        rcases List.mem_append.1 hm with hm | hm
        · obtain ⟨h1, h2, h3, _⟩ := htab b o hm
          rw [h1]; exact ⟨h2, h3⟩
        · exact agreeB_all hag b o hm
      have hq : intrF [e.withG els ts tk] e.f e.args H = some (e.v, ⟨(putL H (e.withG els ts tk).post).t, e.n'⟩) := by
        have h1 : Nat.beq e.f (e.withG els ts tk).f = true := Nat.beq_refl _
        have h2 : Nat.beq H.n (e.withG els ts tk).n = true := by rw [hn]; exact Nat.beq_refl _
        have h3 : AV.beqs e.args e.args = true := by
          have key : ∀ {T : List EntF} {v : AV} {h' : AHeap}, intrF T e.f e.args H = some (v, h') → ∃ x ∈ T, AV.beqs e.args x.args = true := fun {T} => by
            induction T with
            | nil => intro v h' hx; cases hx
            | cons x T ih =>
              intro v h' hx
              simp only [intrF] at hx
              have go : intrF T e.f e.args H = some (v, h') → ∃ y ∈ x :: T, AV.beqs e.args y.args = true := fun hx => by
                obtain ⟨y, h1, h2⟩ := ih hx
                exact ⟨y, by simp [h1], h2⟩
              split at hx
              · split at hx
                · split at hx
                  · rename_i hb; exact ⟨x, by simp, hb⟩
                  · exact go hx
                · exact go hx
              · exact go hx
          obtain ⟨x, _, hx⟩ := key hr
          have := beqs_eq _ _ hx
          rw [← this] at hx
          exact hx
        simp only [intrF, h1, h2, hag']
        rw [show AV.beqs e.args (e.withG els ts tk).args = true from h3]
        rfl
      have hok : EntFOK P (e.withG els ts tk) := by
        refine ⟨intr, k, hi, ?_⟩
        have hb := hb els
        unfold entG at hb
        unfold entF
        show (match callN P intr k (.fn e.f) e.args (mkH e.n (preG els ts tk ++ e.pre)) with
          | .ret v H => AV.beq v e.v && (Nat.beq H.n e.n' && (agreeB H (preG els ts tk ++ e.post) && (keysIn (preG els ts tk ++ e.post) (preG els ts tk ++ e.pre) && belowB e.n (preG els ts tk ++ e.pre))))
          | _ => false) = true
        split at hb
        · rename_i v1 H1 hrun
          simp only [Bool.and_eq_true] at hb ⊢
          obtain ⟨b1, b2, b3, b4, b5, b6⟩ := hb
          have hGn : P.globals.size ≤ e.n := by rw [Nat.ble_eq] at b6; exact b6
          have hbelow : ∀ b o, (b, o) ∈ preG els ts tk ++ e.pre → b < e.n := fun b o hm => by
            rcases List.mem_append.1 hm with hm | hm
            · have := (htab b o hm).2.2.2; omega
            · exact belowB_mem b5 b o hm
          have hlow : ∀ b o, (b, o) ∈ preG els ts tk ++ e.pre → b < H.n := fun b o hm => by rw [hn]; exact hbelow b o hm
          obtain ⟨hhp, hfg⟩ := hh.part hag' hlow
          have hpe : (e.withG els ts tk).pre = preG els ts tk ++ e.pre := rfl
          rw [hpe, hn] at hhp hfg
          have hgo := (run_ok hf hi k).fn e.f e.args (mkH e.n (preG els ts tk ++ e.pre)) (by rw [hrun]; rfl) μ w vs hhp hg hv
          rw [hrun] at hgo
          have hro : ∀ b o, (b, o) ∈ preG els ts tk → H1.get b = some o := by
            obtain ⟨en, w', hen⟩ : ∃ en w', Ends μ (mkH e.n (preG els ts tk ++ e.pre)) w (.ret v1 H1) en w' := by
              rcases hgo with ⟨u, w', _, h⟩ | ⟨_, h⟩
              · exact ⟨_, _, h⟩
              · obtain ⟨en, w', _, h, _⟩ := h []
                exact ⟨en, w', h⟩
            obtain ⟨μ1, u, _, _, _, q3⟩ := hen
            intro b o hm
            obtain ⟨t1, _, _, t4⟩ := htab b o hm
            obtain ⟨i, i1, _, _⟩ := hg b t4
            have hget : (mkH e.n (preG els ts tk ++ e.pre)).get b = some o := by
              rw [mkH_put]
              rcases putL_get (emptyHeap e.n) (preG els ts tk ++ e.pre) b with ⟨o', h1, h2⟩ | ⟨h1, _⟩
              · have h3 := agreeB_mem hag' b o' h1
                rw [t1] at h3; cases h3
                exact h2
              · exact absurd (List.mem_append.2 (.inl hm)) (h1 o)
            have hr : o.isRo = true := by
              unfold preG at hm
              rcases List.mem_append.1 hm with hm | hm
              · obtain ⟨t, _, e1⟩ := List.mem_map.1 hm; cases e1; rfl
              · obtain ⟨t, _, e1⟩ := List.mem_map.1 hm; cases e1; rfl
            exact (q3.ro b o i hget hr i1).1
          refine ⟨b1, b2, agreeB_of fun b o hm => ?_, keysIn_of fun b o hm => ?_, belowB_of hbelow⟩
          · rcases List.mem_append.1 hm with hm | hm
            · obtain ⟨_, h2, h3, _⟩ := htab b o hm
              rw [hro b o hm]
              exact ⟨h2, h3⟩
            · exact agreeB_all b3 b o hm
          · rcases List.mem_append.1 hm with hm | hm
            · exact ⟨o, List.mem_append.2 (.inl hm)⟩
            · obtain ⟨o', h1⟩ := keysIn_mem b4 b o hm
              exact ⟨o', List.mem_append.2 (.inr h1)⟩
        · cases hb
      have hgo := intrF_ok hf (T := [e.withG els ts tk]) (fun x hx => by obtain rfl := List.mem_singleton.1 hx; exact hok) e.f e.args H _ _ hq μ w vs hh hg hv
      refine hgo.mono fun en w' hen => Ends.congr (H1 := ⟨(putL H (e.withG els ts tk).post).t, e.n'⟩) (H2 := ⟨(putL H e.post).t, e.n'⟩) (fun b => ?_) rfl hen
      show (putL H (preG els ts tk ++ e.post)).get b = (putL H e.post).get b
      have key : ∀ l : List (Nat × AObj), (∀ b o, (b, o) ∈ l → H.get b = some o ∧ b < P.globals.size) → (putL H (l ++ e.post)).get b = (putL H e.post).get b := fun l => by
        induction l with
        | nil => intro _; rfl
        | cons x l ih =>
          intro hl
          obtain ⟨c, o⟩ := x
          show ((putL H (l ++ e.post)).set c (some o)).get b = _
          rw [AHeap.get_set]
          by_cases e1 : b = c
          · subst e1
            rw [if_pos rfl]
            obtain ⟨h1, h2⟩ := hl b o (by simp)
            rcases putL_get H e.post b with ⟨o', k1, _⟩ | ⟨_, k2⟩
            · have := aboveB_mem hab b o' k1; omega
            · rw [k2, h1]
          · rw [if_neg e1]
            exact ih fun b o hm => hl b o (by simp [hm])
      exact key _ fun b o hm => ⟨(htab b o hm).1, (htab b o hm).2.2.2⟩
    · cases hx
  · cases hx
end
end AEv
