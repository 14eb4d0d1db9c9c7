/-
  PROVED HERE: contracts of functions (Da). No condition beside each statement's own.
-/
import Derived.Test.YtlelojncabdnoaaDoorAed
import Derived.OpenShut
import Derived.ChangeSame
import Derived.Lay
import Derived.Laws.IdiomRangeMap
import Derived.Test.YtlelojncabdnoaaDoorSxa
set_option linter.unusedVariables false
set_option linter.unusedSimpArgs false
namespace AEv
open Go Go.RowKit

/-- A table of bytes: the variable's number, the bytes. -/
structure Tab where
  g : Nat
  xs : List Nat
def u8s : List Nat → List AV
  | [] => []
  | x :: l => .int .u8 (Int.ofNat x) :: u8s l
def Tab.obj (els : Nat → Nat) (t : Tab) : AObj := .cells (u8s t.xs) (els t.g) .ro 0 0
def eqU8 : List AV → List Nat → Bool
  | [], [] => true
  | .int .u8 (.ofNat n) :: l, x :: xs => match Nat.beq n x with
    | true => eqU8 l xs
    | false => false
  | _, _ => false
def isTab (h : AHeap) (t : Tab) : Bool := match h.get t.g with
  | some (.cells cs _ .ro 0 0) => eqU8 cs t.xs
  | _ => false
def setRo (els : Nat → Nat) (h : AHeap) (t : Tab) : AHeap := h.set t.g (some (t.obj els))
def heapT (G : Nat) (els : Nat → Nat) (ts : List Tab) (rows : List (List AV × Nat)) : AHeap := rows.foldl pushRo (ts.foldl (setRo els) (emptyHeap G))
def muT (G : Nat) (sz : Nat → Nat) (is : List Img) : Mu := fun b => if b < G then some ⟨b, 0, sz b⟩ else is[b - G]?
theorem foldSet (els : Nat → Nat) : ∀ (ts : List Tab) (h : AHeap), (ts.foldl (setRo els) h).n = h.n ∧ ∀ b, (ts.foldl (setRo els) h).get b = h.get b ∨ ∃ t ∈ ts, t.g = b ∧ (ts.foldl (setRo els) h).get b = some (t.obj els)
  | [], h => ⟨rfl, fun b => .inl rfl⟩
  | t :: ts, h => by
    obtain ⟨q1, q2⟩ := foldSet els ts (setRo els h t)
    have hg : ∀ b, (setRo els h t).get b = if b = t.g then some (t.obj els) else h.get b := fun b => AHeap.get_set _ _ _ _
    refine ⟨q1, fun b => ?_⟩
    rw [List.foldl_cons]
    rcases q2 b with q | ⟨t', h1, h2, h3⟩
    · rw [q, hg]
      by_cases e : b = t.g
      · rw [if_pos e]; exact .inr ⟨t, by simp, e.symm, rfl⟩
      · rw [if_neg e]; exact .inl rfl
    · exact .inr ⟨t', by simp [h1], h2, h3⟩
theorem heapT_n (G : Nat) (els : Nat → Nat) (ts : List Tab) (rows : List (List AV × Nat)) (hts : ∀ t ∈ ts, t.g < G) : (heapT G els ts rows).n = G + rows.length ∧ ∀ b, (heapT G els ts rows).get b = if b < G then (ts.foldl (setRo els) (emptyHeap G)).get b else (rows[b - G]?).map fun r => .cells r.1 r.2 .ro 0 0 := by
  obtain ⟨q1, q2⟩ := foldSet els ts (emptyHeap G)
  have hn : (ts.foldl (setRo els) (emptyHeap G)).n = G := q1
  obtain ⟨r1, r2⟩ := foldRo rows (ts.foldl (setRo els) (emptyHeap G)) fun b hb => by
    rw [hn] at hb
    rcases q2 b with q | ⟨t, h1, h2, _⟩
    · rw [q]; rfl
    · have := hts t h1; omega
  rw [hn] at r1 r2
  exact ⟨r1, r2⟩
/-- A table lies in the world. -/
def TabAt (W : World) (els : Nat → Nat) (t : Tab) : Prop := ∃ c fz, W.heap[t.g]? = some (.cells c (els t.g) fz) ∧ ∀ (j : Nat) (x : Nat), t.xs[j]? = some x → c[j]? = some (.int .u8 (Int.ofNat x))
theorem u8s_get : ∀ (xs : List Nat) (j : Nat), (u8s xs)[j]? = (xs[j]?).map fun x => .int .u8 (Int.ofNat x)
  | [], j => by simp [u8s]
  | x :: xs, 0 => by simp [u8s]
  | x :: xs, j + 1 => by simp [u8s, u8s_get xs j]
def szW (W : World) (g : Nat) : Nat := match W.heap[g]? with
  | some (.cells c _ _) => c.size
  | _ => 0
theorem start_tabs {P : Program} {W : World} (hW : P.globals.size ≤ W.heap.size) (els : Nat → Nat) (ts : List Tab) (hts : ∀ t ∈ ts, t.g < P.globals.size ∧ TabAt W els t) (l : List (Img × List AV × Nat)) (hl : ∀ x ∈ l, RowW W x.1 x.2.1 x.2.2) :
    HRel (muT P.globals.size (szW W) (l.map (·.1))) (heapT P.globals.size els ts (l.map (·.2))) W ∧ GRel P (muT P.globals.size (szW W) (l.map (·.1))) ∧ Roed (heapT P.globals.size els ts (l.map (·.2))) := by
  obtain ⟨hn, hg⟩ := heapT_n P.globals.size els ts (l.map (·.2)) fun t ht => (hts t ht).1
  have ro : ∀ b o, (heapT P.globals.size els ts (l.map (·.2))).get b = some o → (∃ x, l[b - P.globals.size]? = some x ∧ ¬ b < P.globals.size ∧ o = .cells x.2.1 x.2.2 .ro 0 0) ∨ (b < P.globals.size ∧ ∃ t ∈ ts, t.g = b ∧ o = t.obj els) := by
    intro b o h
    rw [hg] at h
    split at h
    · rename_i hb
      rcases (foldSet els ts (emptyHeap P.globals.size)).2 b with q | ⟨t, h1, h2, h3⟩
      · rw [q] at h; cases h
      · rw [h3] at h; cases h; exact .inr ⟨hb, t, h1, h2, rfl⟩
    · rename_i hb
      rw [List.getElem?_map] at h
      cases hx : l[b - P.globals.size]? with
      | none => rw [hx] at h; cases h
      | some x => rw [hx] at h; cases h; exact .inl ⟨x, rfl, hb, rfl⟩
  refine ⟨⟨fun b o j h hj => ?_, fun b c' j k h1 h2 => ?_, fun b j h => ?_, fun b h => ?_⟩, fun g hg => ⟨⟨g, 0, szW W g⟩, by simp [muT, hg], rfl, rfl⟩, fun b o h => ?_⟩
  · rcases ro b o h with ⟨x, hx, hb, rfl⟩ | ⟨hb, t, ht, rfl, rfl⟩
    · unfold muT at hj
      rw [if_neg hb, List.getElem?_map, hx] at hj
      cases hj
      obtain ⟨c, fz, q1, q2, q3⟩ := hl x (List.mem_of_getElem? hx)
      exact ⟨c, fz.1, fz.2, q1, q2 _, q3, trivial⟩
    · unfold muT at hj
      rw [if_pos hb] at hj
      cases hj
      obtain ⟨_, c, fz, q1, q2⟩ := hts t ht
      refine ⟨c, fz.1, fz.2, q1, fun j v hv => ?_, by show 0 + szW W t.g = c.size; unfold szW; rw [q1]; simp, trivial⟩
      rw [u8s_get] at hv
      cases hx : t.xs[j]? with
      | none => rw [hx] at hv; cases hv
      | some x =>
        rw [hx] at hv; cases hv
        exact ⟨_, by rw [Nat.zero_add]; exact q2 j x hx, rfl⟩
  · obtain ⟨o, h2, h3⟩ := h2
    rcases ro _ o h2 with ⟨x, _, _, rfl⟩ | ⟨_, t, _, _, rfl⟩ <;> cases h3
  · rw [hn, List.length_map]
    unfold muT at h
    split at h
    · rename_i hb; cases h; exact ⟨by omega, Nat.lt_of_lt_of_le hb hW⟩
    · rw [List.getElem?_map] at h
      cases hx : l[b - P.globals.size]? with
      | none => rw [hx] at h; cases h
      | some x =>
        rw [hx] at h; cases h
        obtain ⟨c, fz, q1, _⟩ := hl x (List.mem_of_getElem? hx)
        have := (List.getElem?_eq_some_iff.1 hx).1
        exact ⟨by omega, (Array.getElem?_eq_some_iff.1 q1).1⟩
  · rw [hn, List.length_map] at h
    rw [hg, if_neg (by omega), List.getElem?_map, List.getElem?_eq_none (by omega)]; rfl
  · rcases ro b o h with ⟨x, _, _, rfl⟩ | ⟨_, t, _, _, rfl⟩ <;> rfl

/-! ### Calls told from a table, where tables lie -/
section
variable {P : Program}
end
end AEv

namespace AEv
open Go Go.ChangeShapes Go.WideShapes Go.ChangeAt Go.RowKit

end AEv

namespace AEv
open Go Go.RowKit

section
variable {P : Program}
def orE (i1 i2 : Nat → List AV → AHeap → Option (AV × AHeap)) (f : Nat) (args : List AV) (h : AHeap) : Option (AV × AHeap) := match i1 f args h with
  | some r => some r
  | none => i2 f args h
theorem orE_ok {i1 i2 : Nat → List AV → AHeap → Option (AV × AHeap)} (h1 : IntrOK P i1) (h2 : IntrOK P i2) : IntrOK P (orE i1 i2) := by
  intro f args H v H' hx
  unfold orE at hx
  split at hx
  · rename_i r hr
    cases hx
    exact h1 f args H v H' hr
  · exact h2 f args H v H' hx
end
end AEv

namespace AEv
open Go Go.ChangeShapes Go.WideShapes Go.ChangeAt Go.RowKit

end AEv

namespace AEv
open Go

end AEv

namespace AEv
open Go

end AEv

namespace AEv
open Go Go.RowKit

section
variable {P : Program}
end
end AEv

namespace AEv
open Go Go.RowKit

section
variable {P : Program}
end
end AEv

namespace AEv
open Go Go.RowKit

section
variable {P : Program}
end
end AEv

namespace AEv
open Go

section
variable {P : Program}

/-- What a piece of code may come to. -/
def Does (P : Program) (need nt : Nat) (rd : Option Nat) (c : Code) (r : Tr) (d : List ADef) (q : Rc) (H : AHeap) (R : AEx → Tr → List ADef → Rc → AHeap → Prop) : Prop :=
  ∀ (b : Frame) (μ : Mu) (w : World) (a : Act) (k : List Item) (cs0 cs : List Frame), RdRel μ b rd → RegsRel need μ r a.tmps → a.tmps.size = nt → HRel μ H w → GRel P μ → DRels μ d a.defers → QRel μ b.kind cs0 q cs →
    ∃ e r' d' q' H', R e r' d' q' H' ∧ CAll P need nt μ H w b k cs0 (lone (b.atR a (.code c :: k)) cs w) (.ok e r' d' q' H')

variable {need nt : Nat} {rd : Option Nat} {r : Tr} {d : List ADef} {q : Rc} {H : AHeap} {R R1 R2 : AEx → Tr → List ADef → Rc → AHeap → Prop}

theorem Does.of_run {call : CallT → List AV → AHeap → FRes} (hc : CallOK P call) (hdr : ∀ need nt, DrawSpec P need nt call) {c : Code} (hok : okCode nt c = true) {e : AEx} {r' : Tr} {d' : List ADef} {q' : Rc} {H' : AHeap}
    (h : evCode P need rd call c r d q H = .ok e r' d' q' H') (hR : R e r' d' q' H') : Does P need nt rd c r d q H R := fun b μ w a k cs0 cs hrd hr hsz hh hg hd hq => by
  have h1 := evCode_ok hc (hdr need nt) (rangeSpec hc) rd c hok b r d q H μ w a k cs0 cs hrd hr hsz hh hg hd hq
  rw [h] at h1
  exact ⟨e, r', d', q', H', hR, h1⟩
theorem Does.mono {c : Code} (h : Does P need nt rd c r d q H R1) (hm : ∀ e r' d' q' H', R1 e r' d' q' H' → R2 e r' d' q' H') : Does P need nt rd c r d q H R2 := fun b μ w a k cs0 cs hrd hr hsz hh hg hd hq => by
  obtain ⟨e, r', d', q', H', h1, h2⟩ := h b μ w a k cs0 cs hrd hr hsz hh hg hd hq
  exact ⟨e, r', d', q', H', hm _ _ _ _ _ h1, h2⟩
theorem Does.seq {x y : Code} (h : Does P need nt rd x r d q H R1) (h2 : ∀ r' d' q' H', R1 .nrm r' d' q' H' → Does P need nt rd y r' d' q' H' R2) (h3 : ∀ e r' d' q' H', e ≠ .nrm → R1 e r' d' q' H' → R2 e r' d' q' H') : Does P need nt rd (.seq x y) r d q H R2 := fun b μ w a k cs0 cs hrd hr hsz hh hg hd hq => by
  obtain ⟨e, r', d', q', H', k1, k2⟩ := h b μ w a (.code y :: k) cs0 cs hrd hr hsz hh hg hd hq
  obtain ⟨μ', w', a', cs', s1, s2, s3, s4, s5, s6, s7⟩ := k2
  by_cases he : e = .nrm
  · subst he
    obtain ⟨e2, r2, d2, q2, H2, m1, m2⟩ := h2 _ _ _ _ k1 b μ' w' a' k cs0 cs' (hrd.mono s5.le) s2 s3 s4 (hg.mono s5.le) s6 s7
    exact ⟨e2, r2, d2, q2, H2, m1, m2.of_steps hh s4 (Steps.head stepR_seq s1) s5⟩
  · exact ⟨e, r', d', q', H', h3 _ _ _ _ _ he k1, μ', w', a', cs', (s1.pass (fun id h => by cases h) he).of_steps (.one stepR_seq), s2, s3, s4, s5, s6, s7⟩
/-- What a block makes of an end. -/
def unblock (id : Nat) : AEx → AEx
  | .exit i => if i = id then .nrm else .exit i
  | e => e
theorem Does.block {id : Nat} {c : Code} (h : Does P need nt rd c r d q H R1) (hm : ∀ e r' d' q' H', R1 e r' d' q' H' → R2 (unblock id e) r' d' q' H') : Does P need nt rd (.block id c) r d q H R2 := fun b μ w a k cs0 cs hrd hr hsz hh hg hd hq => by
  obtain ⟨e, r', d', q', H', k1, k2⟩ := h b μ w a (.inBlock id :: k) cs0 cs hrd hr hsz hh hg hd hq
  refine ⟨unblock id e, r', d', q', H', hm _ _ _ _ _ k1, ?_⟩
  obtain ⟨μ', w', a', cs', s1, s2, s3, s4, s5, s6, s7⟩ := k2
  cases e with
  | nrm => exact ⟨μ', w', a', cs', Steps.head stepR_block (Steps.trans s1 (.one stepR_inBlock)), s2, s3, s4, s5, s6, s7⟩
  | exit i =>
    obtain ⟨kk, e1, e2⟩ := s1
    by_cases hid : i = id
    · simp only [unblock, hid, if_true]
      subst hid
      have e3 : exitTo i kk = some k := by rw [e1]; simp [exitTo]
      exact ⟨μ', w', a', cs', Steps.head stepR_block (Steps.trans e2 (.one (stepR_exit e3))), s2, s3, s4, s5, s6, s7⟩
    · simp only [unblock, if_neg hid]
      have : (id == i) = false := by simp; exact fun h => hid h.symm
      exact ⟨μ', w', a', cs', ⟨kk, e1.trans (by simp [exitTo, this]), Steps.head stepR_block e2⟩, s2, s3, s4, s5, s6, s7⟩
  | ret => obtain ⟨kk, e2⟩ := s1; exact ⟨μ', w', a', cs', ⟨kk, Steps.head stepR_block e2⟩, s2, s3, s4, s5, s6, s7⟩
  | goto l => exact s1.elim
  | pan v => obtain ⟨kk, u, e1, e2⟩ := s1; exact ⟨μ', w', a', cs', ⟨kk, u, e1, Steps.head stepR_block e2⟩, s2, s3, s4, s5, s6, s7⟩
/-- What a loop comes to: an invariant with a measure. -/
def LoopR (inv : Nat → Tr → List ADef → Rc → AHeap → Prop) (n : Nat) (R : AEx → Tr → List ADef → Rc → AHeap → Prop) : AEx → Tr → List ADef → Rc → AHeap → Prop := fun e r d q H => (e = .nrm ∧ ∃ m, m < n ∧ inv m r d q H) ∨ (e ≠ .nrm ∧ R e r d q H)
theorem Does.loop {c : Code} (inv : Nat → Tr → List ADef → Rc → AHeap → Prop) (hstep : ∀ n r d q H, inv n r d q H → Does P need nt rd c r d q H (LoopR inv n R)) (n0 : Nat) (h0 : inv n0 r d q H) : Does P need nt rd (.loop c) r d q H R := fun b μ w a k cs0 cs hrd hr hsz hh hg hd hq => by
  have key : ∀ (n m : Nat), m < n → ∀ (r : Tr) (d : List ADef) (q : Rc) (H : AHeap) (μ : Mu) (w : World) (a : Act) (cs : List Frame), inv m r d q H → RdRel μ b rd → RegsRel need μ r a.tmps → a.tmps.size = nt → HRel μ H w → GRel P μ → DRels μ d a.defers → QRel μ b.kind cs0 q cs →
      ∃ e r' d' q' H', R e r' d' q' H' ∧ CAll P need nt μ H w b k cs0 (lone (b.atR a (.code c :: .inLoop c :: k)) cs w) (.ok e r' d' q' H') := by
    intro n
    induction n with
    | zero => intro m hm; omega
    | succ n ih =>
      intro m hm r d q H μ w a cs hi hrd hr hsz hh hg hd hq
      obtain ⟨e, r', d', q', H', k1, μ', w', a', cs', s1, s2, s3, s4, s5, s6, s7⟩ := hstep m r d q H hi b μ w a (.inLoop c :: k) cs0 cs hrd hr hsz hh hg hd hq
      rcases k1 with ⟨rfl, m', hm', hi'⟩ | ⟨he, hR⟩
      · obtain ⟨e2, r2, d2, q2, H2, m1, m2⟩ := ih m' (by omega) r' d' q' H' μ' w' a' cs' hi' (hrd.mono s5.le) s2 s3 s4 (hg.mono s5.le) s6 s7
        exact ⟨e2, r2, d2, q2, H2, m1, m2.of_steps hh s4 (Steps.trans s1 (.one stepR_inLoop)) s5⟩
      · exact ⟨e, r', d', q', H', hR, μ', w', a', cs', s1.pass (fun id h => by cases h) he, s2, s3, s4, s5, s6, s7⟩
  obtain ⟨e, r', d', q', H', k1, k2⟩ := key (n0 + 1) n0 (by omega) r d q H μ w a cs h0 hrd hr hsz hh hg hd hq
  exact ⟨e, r', d', q', H', k1, k2.of_steps hh hh (.one stepR_loop) (Adv.refl _ _ _)⟩

/-! ### The next entry of a map, whichever -/
theorem entsRel_mem {μ : Mu} : ∀ {es : List AEnt} {ms : List MapEntry}, EntsRel μ es ms → ∀ m ∈ ms, ∃ e ∈ es, EntRel μ e m
  | [], _, h, m, hm => by cases h; cases hm
  | e :: es, _, ⟨m0, ms, rfl, h1, h2⟩, m, hm => by
    rcases List.mem_cons.1 hm with rfl | hm
    · exact ⟨e, by simp, h1⟩
    · obtain ⟨e', h3, h4⟩ := entsRel_mem h2 m hm
      exact ⟨e', by simp [h3], h4⟩
theorem entsRel_mem' {μ : Mu} : ∀ {es : List AEnt} {ms : List MapEntry}, EntsRel μ es ms → ∀ e ∈ es, ∃ m ∈ ms, EntRel μ e m
  | [], _, h, m, hm => by cases hm
  | e :: es, _, ⟨m0, ms, rfl, h1, h2⟩, m, hm => by
    rcases List.mem_cons.1 hm with rfl | hm
    · exact ⟨m0, by simp, h1⟩
    · obtain ⟨e', h3, h4⟩ := entsRel_mem' h2 m hm
      exact ⟨e', by simp [h3], h4⟩
theorem next_map_ok {μ : Mu} {w : World} (hh : HRel μ H w) {t : TypeId} {ri m since last clock : Nat} {seen : List Nat} {es : List AEnt} {iv : Value} (hi : VRel μ (.ptr ri 0) iv)
    (hit : H.get ri = some (.mapIter (some m) since seen last)) (hm : H.get m = some (.map es clock)) (hold : ∀ e ∈ es, e.born < since) (hsl : since ≤ last) :
    ((∀ e ∈ es, e.born ∈ seen) ∧ ValOK P μ H w (Instr.next iv false t) (.tup [.bool false]) H) ∨
    ∃ e ∈ es, e.born ∉ seen ∧ ValOK P μ H w (Instr.next iv false t) (.tup [.bool true, e.key, e.val]) (H.set ri (some (.mapIter (some m) since (seen ++ [e.born]) clock))) := by
  obtain ⟨i, him, rfl⟩ := hi
  obtain ⟨e0, j, hj, e1⟩ := hh.rel _ _ i hit him
  obtain ⟨ib, i0, isz⟩ := i
  simp only at e0; subst e0
  have e1' : w.heap[ib]? = some (.mapIter (some j.blk) since ⟨seen⟩ last) := e1
  obtain ⟨ents, f1, f2⟩ := hh.rel _ _ j hm hj
  have hget : (getObj ib).run P w = .ok (.mapIter (some j.blk) since ⟨seen⟩ last) w := by simp [getObj, Sem.run, e1']
  have hget2 : (getObj j.blk).run P w = .ok (.map ⟨ents⟩ clock) w := by simp [getObj, Sem.run, f1]
  have holdm : ∀ x ∈ (⟨ents⟩ : Array MapEntry).toList, x.born < since := fun x hx => by
    obtain ⟨e, he, hr⟩ := entsRel_mem f2 x hx
    rw [← hr.2.2]; exact hold e he
  have htest := next_test_false ⟨seen⟩ ⟨ents⟩ since last holdm hsl
  have hmem : ∀ x ∈ (Array.filter (fun e => !(⟨seen⟩ : Array Nat).contains e.born) (⟨ents⟩ : Array MapEntry)).toList, x.born < since := fun x hx => holdm x (by simp at hx ⊢; exact hx.1)
  have hin : ∀ x ∈ (Array.filter (fun e => !(⟨seen⟩ : Array Nat).contains e.born) (⟨ents⟩ : Array MapEntry)).toList, x ∈ ents ∧ x.born ∉ seen := fun x hx => by
    simp at hx; exact hx
  have hall : (Array.filter (fun e => !(⟨seen⟩ : Array Nat).contains e.born) (⟨ents⟩ : Array MapEntry)).size = 0 → ∀ x ∈ ents, x.born ∈ seen := fun h0 x hx => by
    by_cases hs : x.born ∈ seen
    · exact hs
    · exfalso
      have : x ∈ Array.filter (fun e => !(⟨seen⟩ : Array Nat).contains e.born) (⟨ents⟩ : Array MapEntry) := by simp; exact ⟨hx, hs⟩
      rw [Array.eq_empty_of_size_eq_zero h0] at this
      simp at this
  generalize hL : Array.filter (fun e => !(⟨seen⟩ : Array Nat).contains e.born) (⟨ents⟩ : Array MapEntry) = L at hmem hin hall
  have g1 : L.filter (fun x => decide (x.born < since)) = L := Array.filter_eq_self.2 (fun x hx => by simpa using hmem x (by simpa using hx))
  have g2 : L.filter (fun x => decide (x.born ≥ since)) = #[] := by
    rw [Array.filter_eq_empty_iff]
    intro x hx
    have := hmem x (by simpa using hx)
    simp
    omega
  by_cases h0 : L.size = 0
  · left
    refine ⟨fun e he => ?_, ?_⟩
    · obtain ⟨x, hx, hr⟩ := entsRel_mem' f2 e he
      rw [hr.2.2]; exact hall h0 x hx
    · refine .same hh (v' := .tuple #[.bool false]) ?_ ⟨_, rfl, _, _, rfl, rfl, rfl⟩
      simp only [Instr.next, Sem.run_bind, hget, hget2, Result.andThen_ok, htest, Bool.false_eq_true, if_false]
      rw [hL]
      simp only [g1, g2, Array.append_empty]
      have : L = #[] := Array.eq_empty_of_size_eq_zero h0
      subst this
      simp [choose, Sem.run, Question.forced]
  · right
    have hne : L.isEmpty = false := by simp [Array.isEmpty, h0]
    have hch : ∃ (jj : Nat) (w1 : World), jj < L.size ∧ w1.heap = w.heap ∧ w1.os = w.os ∧ w1.output = w.output ∧ w1.tape = w.tape ∧ w.drawn ≤ w1.drawn ∧ (choose (Question.mapNext L.size)).run P w = .ok jj w1 := by
      by_cases hf : L.size ≤ 1
      · exact ⟨0, w, by omega, rfl, rfl, rfl, rfl, Nat.le_refl _, by simp [choose, Sem.run, Question.forced, hf]⟩
      · exact ⟨_, w.drew, Nat.mod_lt _ (by omega), rfl, rfl, rfl, rfl, Nat.le_succ _, by
          simp only [choose, Sem.run, Question.forced, decide_eq_true_eq, hf, if_false, Question.cut]
          rfl⟩
    obtain ⟨jj, w1, hjj, a1, a2, a3, a4, a5, hrun⟩ := hch
    obtain ⟨hx1, hx2⟩ := hin L[jj] (by simp)
    obtain ⟨e, he, hr⟩ := entsRel_mem f2 L[jj] hx1
    refine ⟨e, he, by rw [hr.2.2]; exact hx2, ?_⟩
    have hh1 := hh.of_heap a1
    have hltb : ib < w1.heap.size := by rw [a1]; exact (hh.lt _ _ him).2
    obtain ⟨r1, r2⟩ := hh1.update (w' := { w1 with heap := w1.heap.setIfInBounds ib (.mapIter (some j.blk) since ⟨seen ++ [e.born]⟩ clock) }) (o' := .mapIter (some m) since (seen ++ [e.born]) clock) hit rfl him (by simp) (fun r hr => by simp [Array.getElem?_setIfInBounds]; intro e; exact absurd e.symm hr) rfl rfl rfl
      ⟨rfl, j, hj, by simp [hltb]⟩
    refine ⟨μ, _, .tuple #[.bool true, L[jj].key, L[jj].val], ?_, ⟨_, rfl, _, _, rfl, rfl, _, _, rfl, hr.1, _, _, rfl, hr.2.1, rfl⟩, r1, Adv.trans hh hh1 (Adv.of_heap a1 a2 a3 a4 a5) r2⟩
    have e1w : w1.heap[ib]? = some (.mapIter (some j.blk) since ⟨seen⟩ last) := by rw [a1]; exact e1'
    have hset : (setObj ib (.mapIter (some j.blk) since ((⟨seen⟩ : Array Nat).push L[jj].born) clock)).run P w1 = .ok () { w1 with heap := w1.heap.setIfInBounds ib (.mapIter (some j.blk) since ⟨seen ++ [e.born]⟩ clock) } := by
      have : ((⟨seen⟩ : Array Nat).push L[jj].born) = ⟨seen ++ [e.born]⟩ := by rw [hr.2.2]; apply Array.ext'; simp
      rw [this]
      simp [setObj, Sem.run, e1w]
    simp only [Instr.next, Sem.run_bind, hget, hget2, Result.andThen_ok, htest, Bool.false_eq_true, if_false]
    rw [hL]
    simp only [g1, g2, Array.append_empty, hne, Bool.false_eq_true, if_false, Array.empty_append, Array.size_map, hrun, Result.andThen_ok, Array.getElem?_map, Array.getElem?_eq_getElem hjj, Option.map_some, Sem.run_bind, hset]
    rfl

theorem Does.next {call : CallT → List AV → AHeap → FRes} (hc : CallOK P call) {id : Nat} {ops : Array Oper} {o : Oper} {rest : List Oper} (ho : ops.toList = o :: rest) {it : Operand} (hop : o.op = .next it false) (hgd : o.guard = none) (hok : okCode nt (.region id ops false) = true)
    {ri m since last clock : Nat} {seen : List Nat} {es : List AEnt} (hra : getAcc 0 [] r (accOf P need [] it) = .ptr ri 0) (hit : H.get ri = some (.mapIter (some m) since seen last)) (hm : H.get m = some (.map es clock)) (hold : ∀ e ∈ es, e.born < since) (hsl : since ≤ last)
    (hend : (∀ e ∈ es, e.born ∈ seen) → ∃ e' r' d' q' H', toC need r (planL P need ops rest (nextLoc o 0 []) 1) (evSteps P need rd.isSome call r (planS P need ops rest (nextLoc o 0 []) 1) [.tup [.bool false]] d q H) = .ok e' r' d' q' H' ∧ R e' r' d' q' H')
    (hone : ∀ e ∈ es, e.born ∉ seen → ∃ e' r' d' q' H', toC need r (planL P need ops rest (nextLoc o 0 []) 1) (evSteps P need rd.isSome call r (planS P need ops rest (nextLoc o 0 []) 1) [.tup [.bool true, e.key, e.val]] d q (H.set ri (some (.mapIter (some m) since (seen ++ [e.born]) clock)))) = .ok e' r' d' q' H' ∧ R e' r' d' q' H') :
    Does P need nt rd (.region id ops false) r d q H R := fun b μ w a k cs0 cs hrd hr hsz hh hg hd hq => by
  simp only [okCode, Bool.and_eq_true, List.all_eq_true] at hok
  have hops : ∀ o ∈ ops.toList, ∀ t, o.dst = some t → t < nt := fun o ho t ht => by
    have := hok.1 o ho
    rw [ht] at this
    simpa using this
  have hri0 := RInv.init (P := P) (need := need) hr
  have hev := hri0.eval (a := a) hg it
  rw [hra] at hev
  have ho0 : ops[0]? = some o := by rw [← Array.getElem?_toList, ho]; rfl
  have hmem : o ∈ ops.toList := by rw [ho]; simp
  have hdst : ∀ t, o.dst = some t → t < a.tmps.size := fun t h => by rw [hsz]; exact hops o hmem t h
  have hsz0 : ops.size = rest.length + 1 := by
    have := congrArg List.length ho
    simpa using this
  have hrng : List.range ops.size = 0 :: List.range' 1 rest.length := by rw [hsz0, List.range_eq_range', List.range'_succ]
  have key : ∀ (v : AV) (H1 : AHeap), ValOK P μ H w (Instr.next (a.eval it) false o.type) v H1 →
      CAll P need nt μ H w b k cs0 (lone (b.atR a (.code (.region id ops false) :: k)) cs w) (toC need r (planL P need ops rest (nextLoc o 0 []) 1) (evSteps P need rd.isSome call r (planS P need ops rest (nextLoc o 0 []) 1) [v] d q H1)) := by
    intro v H1 hv
    obtain ⟨μ', w', u, hrun, hu, hh', hadv⟩ := hv
    have hw : Region.wanted o (yielded ops a.tmps) = true := by simp [Region.wanted, hgd]
    have hst := stepGR_op (P := P) (b := b) (a := a) (k := k) (cs := cs) (w := w) (rest := List.range' 1 rest.length) ho0 hw
    have hsem : o.semAt b.roundOf a.eval = execOp a.eval o := Oper.semAt_eq _ _ _ fun c e => by rw [hop] at e; cases e
    rw [hsem] at hst
    obtain ⟨g1, _⟩ := stepG_goes hst
    have hex : (execOp a.eval o).run P w = .ok (.value u) w' := by
      have : execOp a.eval o = (do pure (.value (← Instr.next (a.eval it) false o.type))) := by
        obtain ⟨dst, op, type, pos, after, guard⟩ := o
        simp only at hop
        subst hop
        rfl
      rw [this]
      simp only [Sem.run_bind, hrun, Result.andThen_ok]
      rfl
    have hs := g1 u w' hex
    have hfin : (b.atR a (.inRegion ops (0 :: List.range' 1 rest.length) :: k)).finish u = b.atR (a.put o.dst u) (.inRegion ops (List.range' 1 rest.length) :: k) := by
      rw [Frame.finish_atR, ho0]; rfl
    rw [hfin] at hs
    have hri' := (hri0.mono hadv.le).step (a := a) (o := o) hdst hu
    have hrest : ops.toList.drop 1 = rest := by rw [ho]; rfl
    have ih := evSteps_ok (P := P) (need := need) (k := k) hc hops (b := b) (inR := rd.isSome) hrd.isSome (r := r) (cs0 := cs0) rest 1 (nextLoc o 0 []) 1 [v] d q μ' H1 w' (a.put o.dst u) cs hrest rfl hri' ((put_size _ _ _).trans hsz) hh' (hg.mono hadv.le) (by rw [put_defers]; exact hd.mono hadv.le) (hq.mono hadv.le)
    have h2 := RAll.code ih
    refine CAll.of_steps hh hh' (Steps.trans (.one stepR_region) ?_) hadv h2
    rw [hrng]
    exact hs
  rcases next_map_ok (P := P) hh (t := o.type) hev hit hm hold hsl with ⟨hall, hv⟩ | ⟨e, he, hns, hv⟩
  · obtain ⟨e', r', d', q', H', h1, h2⟩ := hend hall
    have := key _ _ hv
    rw [h1] at this
    exact ⟨e', r', d', q', H', h2, this⟩
  · obtain ⟨e', r', d', q', H', h1, h2⟩ := hone e he hns
    have := key _ _ hv
    rw [h1] at this
    exact ⟨e', r', d', q', H', h2, this⟩

/-! ### Blocks that nobody needs -/
/-! ### A function that comes to one end, whatever the tape says -/
end
end AEv

namespace AEv
open Go

section
variable {P : Program} {fn : Func} {rd : Option Nat} {call : CallT → List AV → AHeap → FRes}

/-- What a piece of a function's code may come to, at registers of which so much is known. -/
def DoesF (P : Program) (fn : Func) (rd : Option Nat) (p : List Nat) (st : SSt) (R : AEx → SSt → Prop) : Prop :=
  ∀ r, Mod r st.Γ → Does P (needFn fn) fn.ntmps rd (sub (bodyOf fn) p) r st.d st.q st.h (fun e r' d' q' h' => ∃ Γ', Mod r' Γ' ∧ R e ⟨Γ', d', q', h'⟩)
theorem DoesF.of_run (hc : CallOK P call) (hdr : ∀ need nt, DrawSpec P need nt call) {p : List Nat} {st st' : SSt} {e : AEx} (hok : okCode fn.ntmps (sub (bodyOf fn) p) = true) (h : RunF P fn rd call p st e st') {R : AEx → SSt → Prop} (hR : R e st') : DoesF P fn rd p st R := fun r hr => by
  obtain ⟨r', h1, h2⟩ := h r hr
  exact Does.of_run hc hdr hok h1 ⟨st'.Γ, h2, hR⟩
theorem DoesF.seq {p : List Nat} {st : SSt} {R1 R2 : AEx → SSt → Prop} (hs : isSeq (sub (bodyOf fn) p) = true) (h1 : DoesF P fn rd (p ++ [0]) st R1) (h2 : ∀ st', R1 .nrm st' → DoesF P fn rd (p ++ [1]) st' R2) (h3 : ∀ e st', e ≠ .nrm → R1 e st' → R2 e st') : DoesF P fn rd p st R2 := fun r hr => by
  rw [isSeq_eq hs]
  have h1' := h1 r hr
  rw [sub_app] at h1'
  refine h1'.seq (fun r' d' q' H' ⟨Γ', m, hR⟩ => ?_) fun e r' d' q' H' he ⟨Γ', m, hR⟩ => ⟨Γ', m, h3 e _ he hR⟩
  have := h2 _ hR r' m
  rw [sub_app] at this
  exact this
theorem DoesF.block {p : List Nat} {id : Nat} {st : SSt} {R1 R2 : AEx → SSt → Prop} (hs : isBlock id (sub (bodyOf fn) p) = true) (h1 : DoesF P fn rd (p ++ [0]) st R1) (h2 : ∀ e st', R1 e st' → R2 (unblock id e) st') : DoesF P fn rd p st R2 := fun r hr => by
  rw [isBlock_eq hs]
  have h1' := h1 r hr
  rw [sub_app] at h1'
  exact h1'.block fun e r' d' q' H' ⟨Γ', m, hR⟩ => ⟨Γ', m, h2 e _ hR⟩
def LoopD (inv : Nat → SSt → Prop) (n : Nat) (R : AEx → SSt → Prop) : AEx → SSt → Prop := fun e st => (e = .nrm ∧ ∃ m, m < n ∧ inv m st) ∨ (e ≠ .nrm ∧ R e st)
theorem DoesF.loop {p : List Nat} (inv : Nat → SSt → Prop) {R : AEx → SSt → Prop} (hs : isLoop (sub (bodyOf fn) p) = true) (hstep : ∀ n st, inv n st → DoesF P fn rd (p ++ [0]) st (LoopD inv n R)) (n0 : Nat) {st : SSt} (h0 : inv n0 st) : DoesF P fn rd p st R := fun r hr => by
  rw [isLoop_eq hs]
  refine Does.loop (fun n r d q H => ∃ Γ, Mod r Γ ∧ inv n ⟨Γ, d, q, H⟩) (fun n r d q H ⟨Γ, m, hi⟩ => ?_) n0 ⟨st.Γ, hr, h0⟩
  have h1 := hstep n ⟨Γ, d, q, H⟩ hi r m
  rw [sub_app] at h1
  refine h1.mono fun e r' d' q' H' ⟨Γ', m', hR⟩ => ?_
  rcases hR with ⟨rfl, k, hk, hi'⟩ | ⟨he, hR⟩
  · exact .inl ⟨rfl, k, hk, Γ', m', hi'⟩
  · exact .inr ⟨he, Γ', m', hR⟩
theorem DoesF.mono {p : List Nat} {st : SSt} {R1 R2 : AEx → SSt → Prop} (h : DoesF P fn rd p st R1) (hm : ∀ e st', R1 e st' → R2 e st') : DoesF P fn rd p st R2 := fun r hr => (h r hr).mono fun e r' d' q' H' ⟨Γ', m, hR⟩ => ⟨Γ', m, hm e _ hR⟩
theorem DoesF.pre {p : List Nat} {st st1 : SSt} {R : AEx → SSt → Prop} (h : DoesF P fn rd p st R) (hs : SubL st.Γ st1.Γ) (hd : st1.d = st.d) (hq : st1.q = st.q) (hh : st1.h = st.h) : DoesF P fn rd p st1 R := fun r hr => by
  have := h r (hr.sub hs)
  rw [hd, hq, hh]
  exact this
/-- The step of a range over a map: 'next', and whether there is one. -/
def stepOf : Code → Option (Nat × Nat × Nat)
  | .region _ ops false => match ops.toList with
    | [o1, o2] => match o1.op, o1.guard, o1.dst, o2.op, o2.guard, o2.dst with
      | .next (.tmp it) false, none, some a, .extract (.tmp b) 0, none, some c => match Nat.beq a b with
        | true => some (it, a, c)
        | false => none
      | _, _, _, _, _, _ => none
    | _ => none
  | _ => none
theorem stepOf_some {c : Code} {it a t : Nat} (h : stepOf c = some (it, a, t)) : ∃ id ops o1 o2, c = .region id ops false ∧ ops.toList = [o1, o2] ∧ o1.op = .next (.tmp it) false ∧ o1.guard = none ∧ o1.dst = some a ∧ o2.op = .extract (.tmp a) 0 ∧ o2.guard = none ∧ o2.dst = some t := by
  unfold stepOf at h
  split at h
  · rename_i id ops
    split at h
    · rename_i o1 o2 hops
      split at h
      · rename_i it' a' b' c' h1 h2 h3 h4 h5 h6
        split at h
        · rename_i hab
          have := Nat.eq_of_beq_eq_true hab
          subst this
          cases h
          exact ⟨id, ops, o1, o2, rfl, hops, h1, h2, h3, h4, h5, h6⟩
        · cases h
      · cases h
    · cases h
  · cases h
theorem DoesF.next (hc : CallOK P call) {p : List Nat} {st : SSt} {R : AEx → SSt → Prop} {it a t : Nat} (hs : stepOf (sub (bodyOf fn) p) = some (it, a, t)) (hok : okCode fn.ntmps (sub (bodyOf fn) p) = true) (hn : Nat.testBit (needFn fn) it = true) (hna : Nat.testBit (needFn fn) a = false) (hnt : Nat.testBit (needFn fn) t = true)
    {ri m since last clock : Nat} {seen : List Nat} {es : List AEnt} (hr : lk it st.Γ = some (.ptr ri 0)) (hit : st.h.get ri = some (.mapIter (some m) since seen last)) (hm : st.h.get m = some (.map es clock)) (hold : ∀ e ∈ es, e.born < since) (hsl : since ≤ last)
    (hend : (∀ e ∈ es, e.born ∈ seen) → R .nrm ⟨put t (.bool false) st.Γ, st.d, st.q, st.h⟩)
    (hone : ∀ e ∈ es, e.born ∉ seen → R .nrm ⟨put t (.bool true) st.Γ, st.d, st.q, st.h.set ri (some (.mapIter (some m) since (seen ++ [e.born]) clock))⟩) : DoesF P fn rd p st R := fun r hmod => by
  obtain ⟨id, ops, o1, o2, hcd, hops, h1, h2, h3, h4, h5, h6⟩ := stepOf_some hs
  rw [hcd] at hok ⊢
  have hra : getAcc 0 [] r (accOf P (needFn fn) [] (.tmp it)) = .ptr ri 0 := by
    simp only [accOf, findLoc, hn, getAcc]
    exact hmod it _ hr
  -- what the second operation makes of the first one's value
  have fin : ∀ (b : Bool) (vs : List AV) (H : AHeap), ∃ r', toC (needFn fn) r (planL P (needFn fn) ops [o2] (nextLoc o1 0 []) 1) (evSteps P (needFn fn) rd.isSome call r (planS P (needFn fn) ops [o2] (nextLoc o1 0 []) 1) [.tup (.bool b :: vs)] st.d st.q H) = .ok .nrm r' st.d st.q H ∧ Mod r' (put t (.bool b) st.Γ) := by
    intro b vs H
    have hal : aliasOf o2 = none := by
      unfold aliasOf
      rw [h4, h5, h6]
    have hnl : nextLoc o1 0 [] = [(a, .env 0)] := by
      unfold nextLoc; rw [h3]
    have hga : guardAcc P (needFn fn) ops [(a, .env 0)] o2 = none := by unfold guardAcc; rw [h5]
    have hev : evOp P o2 (fun x => getAcc 1 [.tup (.bool b :: vs)] r (accOf P (needFn fn) [(a, .env 0)] x)) H = .val (.bool b) H := by
      have hx : getAcc 1 [.tup (.bool b :: vs)] r (accOf P (needFn fn) [(a, .env 0)] (.tmp a)) = .tup (.bool b :: vs) := by
        simp [accOf, findLoc, getAcc, nth]
      simp only [evOp, h4, hx]
      rfl
    rw [hnl]
    have hpl : planL P (needFn fn) ops [o2] [(a, .env 0)] 1 = nextLoc o2 1 [(a, .env 0)] := by
      unfold planL; rw [hal]; rfl
    have hps : planS P (needFn fn) ops [o2] [(a, .env 0)] 1 = [⟨none, o2, [(a, .env 0)], 1⟩] := by
      unfold planS; rw [hal, hga]; rfl
    have hnl2 : nextLoc o2 1 [(a, .env 0)] = [(t, .env 1), (a, .env 0)] := by unfold nextLoc; rw [h6]
    rw [hpl, hps, hnl2]
    refine ⟨setOuts (needFn fn) 2 [.bool b, .tup (.bool b :: vs)] r [(t, .env 1), (a, .env 0)] r, ?_, ?_⟩
    · have e1 : evSteps P (needFn fn) rd.isSome call r [⟨none, o2, [(a, .env 0)], 1⟩] [.tup (.bool b :: vs)] st.d st.q H = .ok [.bool b, .tup (.bool b :: vs)] st.d st.q H := by
        simp only [evSteps, evOne, wantedA, hev]
      rw [e1]
      rfl
    · have hm2 := outs_mod (need := needFn fn) (m := 2) (env := [.bool b, .tup (.bool b :: vs)]) hmod [(t, .env 1), (a, .env 0)] r st.Γ hmod
      have he : outsS (needFn fn) 2 [.bool b, .tup (.bool b :: vs)] st.Γ [(t, .env 1), (a, .env 0)] st.Γ = put t (.bool b) st.Γ := by
        simp only [outsS, hnt, hna]
        rfl
      rw [he] at hm2
      exact hm2
  refine Does.next hc hops h1 h2 hok hra hit hm hold hsl (fun hall => ?_) fun e he hns => ?_
  · obtain ⟨r', k1, k2⟩ := fin false [] st.h
    exact ⟨_, _, _, _, _, k1, _, k2, hend hall⟩
  · obtain ⟨r', k1, k2⟩ := fin true [e.key, e.val] _
    exact ⟨_, _, _, _, _, k1, _, k2, hone e he hns⟩
end
end AEv

namespace AEv
open Go

section
variable {P : Program}

/-- What a call may come to. -/
def Comes1 (μ : Mu) (H : AHeap) (w : World) (R : AV → AHeap → Prop) (e : Ending) (w' : World) : Prop := ∃ v H', R v H' ∧ Ends μ H w (.ret v H') e w'
def FnDoes (P : Program) (f : Nat) (args : List AV) (H : AHeap) (R : AV → AHeap → Prop) : Prop :=
  ∀ (μ : Mu) (w : World) (vs : List Value), HRel μ H w → GRel P μ → VRels μ args vs → FnGoes P f vs w (Comes1 μ H w R)
theorem Comes1.no {μ : Mu} {H : AHeap} {w : World} {R : AV → AHeap → Prop} : ∀ w', ¬ Comes1 μ H w R .outgrown w' := fun w' ⟨v, H', _, h⟩ => by
  obtain ⟨_, _, e, _⟩ := h; cases e
/-- A function by its body. -/
theorem FnDoes.of_body {call : CallT → List AV → AHeap → FRes} (hc : CallOK P call) (hdr : ∀ need nt, DrawSpec P need nt call) (hall : OKProg P) {f : FuncId} {fn : Func} (hf : P.funcs[f]? = some fn) (hb : fn.body.isSome = true) {args : List AV} (hle : Nat.ble args.length fn.ntmps = true) {H : AHeap} {R : AV → AHeap → Prop}
    (h : DoesF P fn none [] ⟨argsG 0 args, [], .none, H⟩ (fun e s => (e = .nrm ∨ e = .ret) ∧ s.q = .none ∧ ∃ v H', (∀ r, Mod r s.Γ → evDefers P call (needFn fn) fn r 100 none s.d s.h = .ret v H') ∧ R v H')) : FnDoes P f args H R := fun μ w vs hh hg hv => by
  obtain ⟨c, hbc⟩ := Option.isSome_iff_exists.1 hb
  obtain ⟨ok1, ok2⟩ := hall f fn c hf hbc
  have hbo : bodyOf fn = c := by simp [bodyOf, hbc]
  have h1 := h _ (args_mod args)
  rw [hbo] at h1
  simp only [sub] at h1
  have hlen := hv.length
  have hle' : args.length ≤ fn.ntmps := by simpa using hle
  refine .inr ⟨callFunc_enter hf hbc ok2 _ _, fun cs => ?_⟩
  have hq : QRel μ .normal cs .none cs := ⟨rfl, fun fr hk => by simp [tryRecover, hk]⟩
  have henter : Frame.enter P f ⟨vs⟩ .normal = ({ (default : Frame) with fn := f, kind := .normal } : Frame).atR { tmps := ⟨vs⟩ ++ Array.replicate (fn.ntmps - vs.length) undef, defers := [] } [.code c] := by
    simp [Frame.enter, Frame.atR, hf, hbc]
    rfl
  obtain ⟨e, r', d', q', H', ⟨Γ', m1, he, hq', v, Hf, hres, hR⟩, μ', w', a', cs', s1, s2, s3, s4, s5, s6, s7⟩ := h1 { (default : Frame) with fn := f, kind := .normal } μ w { tmps := ⟨vs⟩ ++ Array.replicate (fn.ntmps - vs.length) undef, defers := [] } [] cs cs rfl (init_rel hv _) (by simp; omega) hh hg rfl hq
  have hq'' : q' = .none := hq'
  subst hq''
  have hcs : cs' = cs := s7.1
  subst hcs
  rw [← henter] at s1
  have hev : evDefers P call (needFn fn) fn r' 100 none d' H' = .ret v Hf := hres r' m1
  have main : ∀ (fr : Frame), fr.fn = f → fr.tmps = a'.tmps → fr.defers = a'.defers → fr.kind = .normal → PRel μ' none fr.mode → Steps P (lone (Frame.enter P f ⟨vs⟩ .normal) cs' w) (lone fr cs' w') →
      ∃ e w2 fr2, Comes1 μ H w R e w2 ∧ Comes P (lone (Frame.enter P f ⟨vs⟩ .normal) cs' w) (lone fr2 cs' w2) e ∧ fr2.fn = f ∧ fr2.leaving P w2 e := by
    intro fr h1 h2 h3 h4 h5 h6
    subst h1
    obtain ⟨e2, w2, fr2, r1, r2, r3, r4⟩ := evDefers_ok hc hdr hall 100 none d' H' μ' w' fr cs' (by rw [hev]; rfl) s4 (hg.mono s5.le) (by rw [h2]; exact s2) hf h4 (by rw [h3]; exact s6) h5
    rw [hev] at r1
    have r1' := Ends.trans hh s4 s5 r1
    exact ⟨e2, w2, fr2, ⟨v, Hf, hR, r1'⟩, comes_of_steps (h6.trans r2) (fun e => ends_not_outgrown (r := .ret v Hf) rfl _ (e ▸ r1')), r3, r4⟩
  rcases he with rfl | rfl
  · exact main { ({ (default : Frame) with fn := f, kind := .normal } : Frame).atR a' [] with mode := .returning } rfl rfl rfl rfl rfl (Steps.trans s1 (.one (stepR_end rfl)))
  · obtain ⟨kk, hkk⟩ := s1
    exact main { ({ (default : Frame) with fn := f, kind := .normal } : Frame).atR a' (.code .ret :: kk) with mode := .returning } rfl rfl rfl rfl rfl (Steps.trans hkk (.one (stepR_ret rfl)))
/-- The end of a function in which nothing was deferred. -/
theorem evDefers_none {call : CallT → List AV → AHeap → FRes} {fn : Func} {Γ : Env} {h : AHeap} {v : AV} (hres : resS P (needFn fn) fn Γ h = some v) : ∀ r, Mod r Γ → evDefers P call (needFn fn) fn r 100 none [] h = .ret v h := fun r hr => by
  simp only [evDefers, resS_ok hr hres]
/-- ... in which a loop over a function was, in whose rounds nothing was deferred. -/
theorem evDefers_one {call : CallT → List AV → AHeap → FRes} {fn : Func} {Γ : Env} {h : AHeap} {v : AV} {b : Nat} (hg : h.get b = some (.defrd (some []))) (hres : resS P (needFn fn) fn Γ (h.set b (some (.defrd none))) = some v) : ∀ r, Mod r Γ → evDefers P call (needFn fn) fn r 100 none [.collected b] h = .ret v (h.set b (some (.defrd none))) := fun r hr => by
  simp only [evDefers, hg, List.nil_append, resS_ok hr hres]

/-! ### A region that is one call -/
def opsOf : Code → Array Oper
  | .region _ ops _ => ops
  | _ => #[]
/-- The one call of a region: the function, its arguments' places, what is known behind. -/
def callOf (P : Program) (need : Nat) : Code → Option (Nat × List Acc × Nat × List (Nat × Acc))
  | .region _ ops false => match planOf P need ops with
    | ⟨[s], loc⟩ => match s.guard, s.o.op with
      | none, .call c => match c.callee with
        | .value (.func f) => some (f, c.args.toList.map (accOf P need s.loc), s.m, loc)
        | _ => none
      | _, _ => none
    | _ => none
  | _ => none
/-- One operation, and what may come of it. -/
def OneD (P : Program) (inR : Bool) (gd : Option (AV × Bool)) (o : Oper) (g : Operand → AV) (d : List ADef) (q : Rc) (H : AHeap) (Q : AV → List ADef → Rc → AHeap → Prop) : Prop :=
  ∀ (μ : Mu) (w : World) (b : Frame) (a : Act) (ops : Array Oper) (i : Nat) (rest : List Nat) (k : List Item) (cs0 cs : List Frame), HRel μ H w → GRel P μ → ops[i]? = some o → (∀ wb, wantedA gd = some wb → Region.wanted o (yielded ops a.tmps) = wb) → (∀ x, VRel μ (g x) (a.eval x)) → DRels μ d a.defers → QRel μ b.kind cs0 q cs → inR = b.roundOf.isSome →
    ∃ v d' q' H', Q v d' q' H' ∧ SOk P μ H w b a ops o i rest k cs0 cs (.ok v d' q' H')
theorem OneD.call {inR : Bool} {gd : Option (AV × Bool)} (hgd0 : wantedA gd = some true) {o : Oper} {g : Operand → AV} {d : List ADef} {q : Rc} {H : AHeap} {c : Call} (hop : o.op = .call c) {f : Nat} {args : List AV} (hev : evOp P o g H = .call f args H) {R : AV → AHeap → Prop} (hR : FnDoes P f args H R) : OneD P inR gd o g d q H (fun v d' q' H' => d' = d ∧ q' = q ∧ R v H') :=
  fun μ w b a ops i rest k cs0 cs hh hgl ho hgd hg hd hq hin => by
    have hwt := hgd _ hgd0
    have hfin : ∀ u, (b.atR a (.inRegion ops (i :: rest) :: k)).finish u = b.atR { tmps := (a.put o.dst u).tmps, defers := a.defers } (.inRegion ops rest :: k) := fun u => by
      rw [Frame.finish_atR, ho, ← put_eta]; rfl
    have hst := stepGR_op (P := P) (b := b) (a := a) (k := k) (cs := cs) (w := w) (rest := rest) ho hwt
    have hsem : o.semAt b.roundOf a.eval = execOp a.eval o := Oper.semAt_eq _ _ _ fun c' e => by rw [hop] at e; cases e
    rw [hsem] at hst
    obtain ⟨g1, g2, g3, g4, g5, g6, g7, g8⟩ := stepG_goes hst
    have hopk := evOp_ok (P := P) hh o hg
    rw [hev] at hopk
    obtain ⟨_, vs, hr, h1⟩ := hopk
    rcases hR μ w vs hh hgl h1 with ⟨v, w', q1, q2⟩ | ⟨q1, q2⟩
    · rw [← hr] at q1
      have hs := g1 _ _ q1
      obtain ⟨v', H', hR', μ', u, e, h2, h3, h4⟩ := q2
      cases e
      exact ⟨v', d, q, H', ⟨rfl, rfl, hR'⟩, μ', w', _, a.defers, cs, by rw [← hfin]; exact hs, h2, h3, h4, hd.mono h4.le, hq.mono h4.le⟩
    · rw [← hr] at q1
      have hs := g5 _ _ _ q1
      obtain ⟨e, w', ⟨v', H', hR', hE⟩, hl⟩ := lands_of_calls Comes1.no q2 (b.atR a (.inRegion ops (i :: rest) :: k)) cs
      exact ⟨v', d, q, H', ⟨rfl, rfl, hR'⟩, sok_land (r := .ret v' H') ho hd hq hs ⟨e, w', hE, hl⟩⟩
/-- Steps, and what may come of them. -/
def StepsD (P : Program) (need : Nat) (inR : Bool) (r : Tr) : List Step → List AV → List ADef → Rc → AHeap → (List AV → List ADef → Rc → AHeap → Prop) → Prop
  | [], env, d, q, h, R => R env d q h
  | s :: rest, env, d, q, h, R => ∃ Q : AV → List ADef → Rc → AHeap → Prop, OneD P inR (match s.guard with | none => none | some (x, c) => some (getAcc s.m env r x, c)) s.o (fun x => getAcc s.m env r (accOf P need s.loc x)) d q h Q ∧ ∀ v d' q' h', Q v d' q' h' → StepsD P need inR r rest (v :: env) d' q' h' R
theorem stepsD_ok {need nt : Nat} {ops : Array Oper} (hops : ∀ o ∈ ops.toList, ∀ t, o.dst = some t → t < nt) {b : Frame} {inR : Bool} (hin : inR = b.roundOf.isSome) {r : Tr} {k : List Item} {cs0 : List Frame} {R : List AV → List ADef → Rc → AHeap → Prop} :
    ∀ (l : List Oper) (i0 : Nat) (loc : List (Nat × Acc)) (m : Nat) (env : List AV) (d : List ADef) (q : Rc) (μ : Mu) (H : AHeap) (w : World) (a : Act) (cs : List Frame), ops.toList.drop i0 = l → env.length = m →
      RInv P need μ r m env loc a.tmps → a.tmps.size = nt → HRel μ H w → GRel P μ → DRels μ d a.defers → QRel μ b.kind cs0 q cs → StepsD P need inR r (planS P need ops l loc m) env d q H R →
      ∃ env' d' q' H', R env' d' q' H' ∧ RAll P need nt μ r H w b k cs0 (lone (b.atR a (.inRegion ops (List.range' i0 l.length) :: k)) cs w) (planL P need ops l loc m) (.ok env' d' q' H')
  | [], i0, loc, m, env, d, q, μ, H, w, a, cs, hl, hm, hri, hsz, hh, hg, hd, hq, hS => by
    subst hm
    exact ⟨env, d, q, H, hS, μ, w, a, cs, .one stepR_region_end, hri, hsz, hh, Adv.refl _ _ _, hd, hq⟩
  | o :: rest, i0, loc, m, env, d, q, μ, H, w, a, cs, hl, hm, hri, hsz, hh, hg, hd, hq, hS => by
    have ho : ops[i0]? = some o := by
      have := congrArg List.head? hl
      simpa [List.head?_drop] using this
    have hrest : ops.toList.drop (i0 + 1) = rest := by
      have := congrArg List.tail hl
      simpa [List.tail_drop] using this
    have hmem : o ∈ ops.toList := by
      rw [← Array.getElem?_toList] at ho
      exact List.mem_of_getElem? ho
    have hdst : ∀ t, o.dst = some t → t < a.tmps.size := fun t h => by rw [hsz]; exact hops o hmem t h
    rw [List.length_cons, List.range'_succ]
    unfold planS at hS
    unfold planL
    cases ha : aliasOf o with
    | some p =>
      obtain ⟨t, x⟩ := p
      rw [ha] at hS
      simp only at hS ⊢
      obtain ⟨a1, a2, a3⟩ := aliasOf_some ha
      have hw : Region.wanted o (yielded ops a.tmps) = true := by simp [Region.wanted, a1]
      have hst := stepGR_op (P := P) (b := b) (a := a) (k := k) (cs := cs) (w := w) (rest := List.range' (i0 + 1) rest.length) ho hw
      have hsem : o.semAt b.roundOf a.eval = execOp a.eval o := by
        refine Oper.semAt_eq _ _ _ fun c e => ?_
        have := a3 a.eval
        unfold aliasOf at ha
        rw [e] at ha
        split at ha
        · rename_i h; cases h
        · rename_i h; cases h
        · cases ha
      rw [hsem] at hst
      obtain ⟨g1, _⟩ := stepG_goes hst
      have hs := g1 (a.eval x) w (by rw [a3]; rfl)
      have hfin : (b.atR a (.inRegion ops (i0 :: List.range' (i0 + 1) rest.length) :: k)).finish (a.eval x) = b.atR (a.put (some t) (a.eval x)) (.inRegion ops (List.range' (i0 + 1) rest.length) :: k) := by
        rw [Frame.finish_atR, ho]
        simp only [Option.bind_some, a2]
      rw [hfin] at hs
      obtain ⟨env', d', q', H', hR, ih⟩ := stepsD_ok (k := k) hops hin rest (i0 + 1) ((t, accOf P need loc x) :: loc) m env d q μ H w (a.put (some t) (a.eval x)) cs hrest hm (hri.alias hg (hdst t a2) x) ((put_size _ _ _).trans hsz) hh hg (by rw [put_defers]; exact hd) hq hS
      exact ⟨env', d', q', H', hR, ih.of_steps hh hh hs (Adv.refl _ _ _)⟩
    | none =>
      rw [ha] at hS
      simp only [StepsD] at hS ⊢
      obtain ⟨Q, hone, hnext⟩ := hS
      obtain ⟨v, d', q', H', hQ, μ', w', u, ds', cs', s1, s2, s3, s4, s5, s6⟩ := hone μ w b a ops i0 (List.range' (i0 + 1) rest.length) k cs0 cs hh hg ho (guard_ok (acc := getAcc m env r) hri.rel (fun v => rfl)) (fun x => hri.eval hg x) hd hq hin
      have hri' := (hri.mono s4.le).step (a := a) (o := o) hdst s2
      obtain ⟨env', d2, q2, H2, hR, ih⟩ := stepsD_ok (k := k) hops hin rest (i0 + 1) (nextLoc o m loc) (m + 1) (v :: env) d' q' μ' H' w' { tmps := (a.put o.dst u).tmps, defers := ds' } cs' hrest (by simp [hm]) hri' ((put_size _ _ _).trans hsz) s3 (hg.mono s4.le) s5 s6 (hnext v d' q' H' hQ)
      exact ⟨env', d2, q2, H2, hR, ih.of_steps hh s3 s1 s4⟩
theorem Does.region {need nt : Nat} {rd : Option Nat} {id : Nat} {ops : Array Oper} {r : Tr} {d : List ADef} {q : Rc} {H : AHeap} {R : AEx → Tr → List ADef → Rc → AHeap → Prop} (hok : okCode nt (.region id ops false) = true)
    (hS : StepsD P need rd.isSome r (planS P need ops ops.toList [] 0) [] d q H (fun env d' q' H' => R .nrm (setOuts need env.length env r (planL P need ops ops.toList [] 0) r) d' q' H')) : Does P need nt rd (.region id ops false) r d q H R := fun b μ w a k cs0 cs hrd hr hsz hh hg hd hq => by
  simp only [okCode, Bool.and_eq_true, List.all_eq_true] at hok
  have hops : ∀ o ∈ ops.toList, ∀ t, o.dst = some t → t < nt := fun o ho t ht => by
    have := hok.1 o ho
    rw [ht] at this
    simpa using this
  obtain ⟨env', d', q', H', hR, h⟩ := stepsD_ok (P := P) (need := need) (k := k) hops (b := b) (inR := rd.isSome) hrd.isSome (r := r) (cs0 := cs0) ops.toList 0 [] 0 [] d q μ H w a cs rfl rfl (RInv.init hr) hsz hh hg hd hq hS
  have hl : List.range' 0 ops.toList.length = List.range ops.size := by rw [List.range_eq_range']; simp
  rw [hl] at h
  exact ⟨.nrm, _, d', q', H', hR, CAll.of_steps hh hh (.one stepR_region) (Adv.refl _ _ _) (RAll.code h)⟩
/-- A region that is one call of a function: what is asked of it. -/
theorem DoesF.call1 {fn : Func} {rd : Option Nat} {p : List Nat} {st : SSt} {R : AEx → SSt → Prop} {f : Nat} {accs : List Acc} {loc : List (Nat × Acc)} (hcl : callOf P (needFn fn) (sub (bodyOf fn) p) = some (f, accs, 0, loc)) (hok : okCode fn.ntmps (sub (bodyOf fn) p) = true) {args : List AV} (hargs : accs.map (getS 0 [] st.Γ) = args.map some) {R0 : AV → AHeap → Prop} (hf : FnDoes P f args st.h R0)
    (hR : ∀ v H', R0 v H' → R .nrm ⟨outsS (needFn fn) 1 [v] st.Γ loc st.Γ, st.d, st.q, H'⟩) : DoesF P fn rd p st R := fun r hm => by
  unfold callOf at hcl
  split at hcl
  · rename_i id ops hcode
    split at hcl
    · rename_i s loc' hpl
      split at hcl
      · rename_i c hgd hop
        split at hcl
        · rename_i f' hcallee
          simp only [Option.some.injEq, Prod.mk.injEq] at hcl
          obtain ⟨rfl, rfl, hm0, hloc⟩ := hcl
          subst hloc
          rw [hcode] at hok ⊢
          have hpl2 : planS P (needFn fn) ops ops.toList [] 0 = [s] ∧ planL P (needFn fn) ops ops.toList [] 0 = loc' := by
            unfold planOf at hpl
            rw [planGo_eq] at hpl
            simp only [List.reverse_nil, List.nil_append, Plan.mk.injEq] at hpl
            exact hpl
          refine Does.region hok ?_
          rw [hpl2.1, hpl2.2]
          have hga : ∀ x, accOf P (needFn fn) s.loc x ∈ [] → True := fun _ _ => trivial
          have hev : evOp P s.o (fun x => getAcc s.m [] r (accOf P (needFn fn) s.loc x)) st.h = .call f' args st.h := by
            have ha : c.args.toList.map (fun x => getAcc s.m [] r (accOf P (needFn fn) s.loc x)) = args := by
              have h1 : (c.args.toList.map (accOf P (needFn fn) s.loc)).map (getS s.m [] st.Γ) = args.map some := by
                rw [hm0]; exact hargs
              rw [List.map_map] at h1
              have key : ∀ (l : List Operand) (as : List AV), l.map (getS s.m [] st.Γ ∘ accOf P (needFn fn) s.loc) = as.map some → l.map (fun x => getAcc s.m [] r (accOf P (needFn fn) s.loc x)) = as := by
                intro l
                induction l with
                | nil => intro as h; cases as with
                  | nil => rfl
                  | cons _ _ => cases h
                | cons x l ih => intro as h; cases as with
                  | nil => cases h
                  | cons a as =>
                    simp only [List.map_cons, List.cons.injEq, Function.comp] at h ⊢
                    exact ⟨getS_ok hm h.1, ih as h.2⟩
              exact key _ _ h1
            simp only [evOp, hop, hcallee]
            rw [ha]
            show OpRes.call _ ([] ++ args ++ []) st.h = _
            rw [List.nil_append, List.append_nil]
          refine ⟨_, OneD.call (by rw [hgd]; rfl) hop hev hf, fun v d' q' H' ⟨h1, h2, h3⟩ => ?_⟩
          subst h1; subst h2
          exact ⟨_, outs_mod (need := needFn fn) (m := 1) (env := [v]) hm loc' r st.Γ hm, hR v H' h3⟩
        · cases hcl
      · cases hcl
    · cases hcl
  · cases hcl
end
end AEv

namespace AEv
open Go

section
variable {P : Program} {need nt : Nat}

/-- A loop over a function, in a function's own body, that nobody leaves ahead of its end. -/
theorem Does.range {f : Operand} {ps : Array Nat} {as bd : Code} {r : Tr} {d : List ADef} {q : Rc} {H : AHeap} {g : Nat} {first caps : List AV} {R : AEx → Tr → List ADef → Rc → AHeap → Prop} {R0 : AV → AHeap → Prop} (hok0 : okCode nt (.rangeFunc f ps as bd) = true)
    (hf : getAcc 0 [] r (accOf P need [] f) = .fn g first caps) (hc : FnDoes P g (first ++ [.yld (H.n + 1)] ++ caps) ((H.push (.defrd (some []))).push (.loop .ready none need r ps.toList as bd H.n)) R0)
    (hR : ∀ v H3, R0 v H3 → ∃ st nd rg ps' as' bd' df, H3.get (H.n + 1) = some (.loop st none nd rg ps' as' bd' df) ∧ st ≠ .busy ∧ R .nrm r (.collected H.n :: d) q (H3.set (H.n + 1) (some (.loop .exhausted none nd rg ps' as' bd' df)))) :
    Does P need nt none (.rangeFunc f ps as bd) r d q H R := fun b μ w a k cs0 cs hrd hr hsz hh hg hd hq => by
  have hok := hok0
  simp only [okCode, Bool.and_eq_true, List.all_eq_true] at hok
  have hps : ∀ t ∈ ps.toList, t < nt := fun t ht => by simpa using hok.1.1 t ht
  have hev := (RInv.init (P := P) hr).eval (a := a) hg f
  obtain ⟨μ1, w1, mark, i, h1, h2, h3, h4, h5⟩ := enter_ok (P := P) (b := b) (a := a) (ps := ps) (d := d) (r := r) ⟨hok.1.2, hok.2, hps⟩ hrd hr hsz hh hd (l := H.n + 1) (d' := .collected H.n :: d) (H1 := (H.push (.defrd (some []))).push (.loop .ready none need r ps.toList as bd H.n)) rfl rfl
  have hev1 := hev.mono h4.le
  have hsg := stepG_range (P := P) (f := f) (k := k) (cs := cs) h1
  obtain ⟨g1, g2, g3⟩ := apply_goes hsg
  have hcv := callVal_ok (P := P) (w := w1) h3 hev1 (args := [.yld (H.n + 1)]) (vs := [.func (.yield i.blk) #[] #[]]) ⟨_, _, rfl, ⟨i, h2, rfl⟩, rfl⟩
  rw [hf] at hcv
  obtain ⟨_, vs, e1, e2⟩ := hcv
  have hl : Lands P (lone (b.atR a (.code (.rangeFunc f ps as bd) :: k)) cs w) (b.atR { tmps := a.tmps, defers := mark ++ a.defers } (.inRangeFunc i.blk :: k)) cs (Comes1 μ1 ((H.push (.defrd (some []))).push (.loop .ready none need r ps.toList as bd H.n)) w1 R0) := by
    rcases hc μ1 w1 vs h3 (hg.mono h4.le) e2 with ⟨v, w', q1, q2⟩ | ⟨q1, q2⟩
    · rw [← e1] at q1
      exact ⟨_, _, q2, g1 _ _ q1⟩
    · rw [← e1] at q1
      exact (lands_of_calls Comes1.no q2 _ _).of_steps (g2 _ _ _ q1)
  obtain ⟨e, w3, ⟨v, H3, hR0, hE⟩, hS⟩ := hl
  obtain ⟨μ', u, rfl, q1, q2, q3⟩ := hE
  obtain ⟨st, nd, rg, ps', as', bd', df, hg3, hb, hRR⟩ := hR v H3 hR0
  have hfin : (b.atR { tmps := a.tmps, defers := mark ++ a.defers } (.inRangeFunc i.blk :: k)).finish u = b.atR { tmps := a.tmps, defers := mark ++ a.defers } (.endRangeFunc i.blk :: k) := rfl
  simp only [hfin] at hS
  obtain ⟨w4, x1, x2, x3⟩ := endLoop_ok (P := P) q2 (q3.le _ _ h2) hg3 hb
  have hs2 := Steps.trans hS (.one (stepR_endRange (b := b) (a := { tmps := a.tmps, defers := mark ++ a.defers }) (k := k) (cs := cs) x1))
  have hle := h4.le.trans (q3.le.trans x3.le)
  have hadv := Adv.trans hh q2 (Adv.trans hh h3 h4 q3) x3
  exact ⟨.nrm, r, .collected H.n :: d, q, _, hRR, μ', w4, { tmps := a.tmps, defers := mark ++ a.defers }, cs, hs2, hr.mono hle, hsz, x2, hadv, h5.mono (q3.le.trans x3.le), hq.mono hle⟩
/-! ### What was told of values ahead is told still -/
mutual
theorem VRel.back {μ μ1 : Mu} (hle : Le μ μ1) : ∀ (v : AV) (u u' : Value), VRel μ v u → VRel μ1 v u' → VRel μ v u'
  | .bad, _, _, _, _ => trivial
  | .bool _, _, _, _, h => h
  | .int _ _, _, _, _, h => h
  | .str _, _, _, _, h => h
  | .nilP, _, _, _, h => h
  | .ptr b off, _, _, ⟨i, h, _⟩, ⟨j, h', e'⟩ => by
    have := hle _ _ h
    rw [h'] at this; cases this
    exact ⟨i, h, e'⟩
  | .nilS, _, _, _, h => h
  | .slice b off len cap, _, _, ⟨i, h, _⟩, ⟨j, h', e'⟩ => by
    have := hle _ _ h
    rw [h'] at this; cases this
    exact ⟨i, h, e'⟩
  | .nilM, _, _, _, h => h
  | .map r, _, _, ⟨i, h, _⟩, ⟨j, h', e'⟩ => by
    have := hle _ _ h
    rw [h'] at this; cases this
    exact ⟨i, h, e'⟩
  | .nilF, _, _, _, h => h
  | .fn f first caps, _, _, ⟨_, _, _, h1, h2⟩, ⟨fs, cs, e, k1, k2⟩ => ⟨fs, cs, e, VRels.back hle _ _ _ h1 k1, VRels.back hle _ _ _ h2 k2⟩
  | .yld l, _, _, ⟨i, h, _⟩, ⟨j, h', e'⟩ => by
    have := hle _ _ h
    rw [h'] at this; cases this
    exact ⟨i, h, e'⟩
  | .nilI, _, _, _, h => h
  | .iface t x, _, _, ⟨_, _, h⟩, ⟨y, e, k⟩ => ⟨y, e, VRel.back hle _ _ _ h k⟩
  | .agg cs, _, _, ⟨_, _, h⟩, ⟨l, e, k⟩ => ⟨l, e, VRels.back hle _ _ _ h k⟩
  | .tup cs, _, _, ⟨_, _, h⟩, ⟨l, e, k⟩ => ⟨l, e, VRels.back hle _ _ _ h k⟩
theorem VRels.back {μ μ1 : Mu} (hle : Le μ μ1) : ∀ (vs : List AV) (us us' : List Value), VRels μ vs us → VRels μ1 vs us' → VRels μ vs us'
  | [], _, _, _, h => h
  | a :: as, _, _, ⟨_, _, _, h1, h2⟩, ⟨v, vs, e, k1, k2⟩ => ⟨v, vs, e, VRel.back hle _ _ _ h1 k1, VRels.back hle _ _ _ h2 k2⟩
end
theorem EntsRel.back {μ μ1 : Mu} (hle : Le μ μ1) : ∀ (es : List AEnt) (ms ms' : List MapEntry), EntsRel μ es ms → EntsRel μ1 es ms' → EntsRel μ es ms'
  | [], _, _, _, h => h
  | e :: es, _, _, ⟨_, _, _, h1, h2⟩, ⟨m, ms, e', k1, k2⟩ => ⟨m, ms, e', ⟨VRel.back hle _ _ _ h1.1 k1.1, VRel.back hle _ _ _ h1.2.1 k1.2.1, k1.2.2⟩, EntsRel.back hle _ _ _ h2 k2⟩
theorem DRel.back {μ μ1 : Mu} (hle : Le μ μ1) {a : ADef} {d d' : Deferred} (h : DRel μ a d) (k : DRel μ1 a d') : DRel μ a d' := by
  cases a with
  | call f args =>
    cases k with
    | call _ _ cap vs k1 =>
      cases h with
      | call _ _ cap0 vs0 h1 => exact .call f args cap vs (VRels.back hle _ _ _ h1 k1)
  | collected r =>
    cases k with
    | collected _ i k1 =>
      cases h with
      | collected _ j h1 =>
        have := hle _ _ h1
        rw [k1] at this; cases this
        exact .collected r i h1
theorem DRels.back {μ μ1 : Mu} (hle : Le μ μ1) : ∀ (as : List ADef) (ds ds' : List Deferred), DRels μ as ds → DRels μ1 as ds' → DRels μ as ds'
  | [], _, _, _, h => h
  | _ :: _, _, _, ⟨_, _, _, h1, h2⟩, ⟨d, ds, e, k1, k2⟩ => ⟨d, ds, e, h1.back hle k1, DRels.back hle _ _ _ h2 k2⟩
theorem ORel.back {μ μ1 : Mu} (hle : Le μ μ1) {o : AObj} {i : Img} {w w' : World} (h : ORel μ o i w) (k : ORel μ1 o i w') : ORel μ o i w' := by
  cases o with
  | cells cs el kk lo hi =>
    obtain ⟨c0, _, _, _, h2, _⟩ := h
    obtain ⟨c, flo, fhi, k1, k2, k3⟩ := k
    refine ⟨c, flo, fhi, k1, fun j v hj => ?_, k3⟩
    obtain ⟨u0, _, r0⟩ := h2 j v hj
    obtain ⟨u, hu, r⟩ := k2 j v hj
    exact ⟨u, hu, VRel.back hle _ _ _ r0 r⟩
  | map es clock =>
    obtain ⟨_, _, h2⟩ := h
    obtain ⟨ents, k1, k2⟩ := k
    exact ⟨ents, k1, EntsRel.back hle _ _ _ h2 k2⟩
  | strIter s pos => exact k
  | mapIter m since seen last =>
    cases m with
    | none => exact k
    | some m =>
      obtain ⟨_, j0, h1, _⟩ := h
      obtain ⟨k0, j, k1, k2⟩ := k
      have := hle _ _ h1
      rw [k1] at this; cases this
      exact ⟨k0, j0, h1, k2⟩
  | loop st pend need regs params as bd df =>
    obtain ⟨tm0, dj0, _, h1, _, h3, _⟩ := h
    obtain ⟨tm, dj, fn, k1, k2, k3, k4⟩ := k
    have := hle _ _ h1
    rw [k1] at this; cases this
    exact ⟨tm, dj0, fn, h1, k2, fun t ht => VRel.back hle _ _ _ (h3 t ht) (k3 t ht), k4⟩
  | defrd calls =>
    cases calls with
    | none => exact k
    | some ds =>
      obtain ⟨_, _, h2⟩ := h
      obtain ⟨l, k1, k2⟩ := k
      exact ⟨l, k1, DRels.back hle _ _ _ h2 k2⟩
  | raw o => exact k
theorem refFrees_cells {μ μ' : Mu} {cs : List AV} {c : Array Value} {base : Nat} (h : refFrees cs = true) (hc : CellsRel μ cs c base) : CellsRel μ' cs c base := fun j v hj => by
  obtain ⟨u, h1, h2⟩ := hc j v hj
  refine ⟨u, h1, ?_⟩
  have hall : ∀ (l : List AV) (k : Nat), refFrees l = true → l[k]? = some v → refFree v = true := fun l => by
    induction l with
    | nil => intro k _ hk; simp at hk
    | cons a l ih =>
      intro k hl hk
      simp only [refFrees, Bool.and_eq_true] at hl
      cases k with
      | zero => simp at hk; subst hk; exact hl.1
      | succ k => exact ih k hl.2 (by simpa using hk)
  exact refFree_rel _ _ (hall cs j h hj) h2
/-- A row of its own, of which nothing else is needed, may stand where the next block is laid. -/
theorem Ends.row {μ : Mu} {H H1 : AHeap} {w w' : World} {c n : Nat} {cap : Cap} {cs : List AV} {el lo up : Nat} {k : BK} (hcs : refFrees cs = true) (hk : k = .own ∨ k = .opn) (hc : H.n ≤ c) (hg1 : H1.get c = some (.cells cs el k lo up)) (hlow : ∀ b, b < H.n → H1.get b = H.get b) (hh : HRel μ H w) {e : Ending} (h : Ends μ H w (.ret (.slice c 0 n cap) H1) e w') :
    Ends μ H w (.ret (.slice H.n 0 n cap) (H.push (.cells cs el k lo up))) e w' := by
  obtain ⟨μ1, u, rfl, q1, q2, q3⟩ := h
  obtain ⟨ic, hic, hcap'⟩ := q1
  have hμc : μ c = none := by
    cases hx : μ c with
    | none => rfl
    | some y => have := (hh.lt c y hx).1; omega
  obtain ⟨μ', hμ'⟩ : ∃ μ' : Mu, ∀ b, μ' b = if b < H.n then μ b else if b = H.n then some ic else none := ⟨_, fun _ => rfl⟩
  have hle : Le μ μ' := fun b i hb => by rw [hμ', if_pos (hh.lt b i hb).1]; exact hb
  have hget : ∀ b, (H.push (.cells cs el k lo up)).get b = if b = H.n then some (.cells cs el k lo up) else H.get b := fun b => by rw [AHeap.get_push]
  have hgn : (H.push (.cells cs el k lo up)).n = H.n + 1 := rfl
  have hup : ∀ b i, ¬ b < H.n → μ' b = some i → b = H.n ∧ i = ic := fun b i hb h1 => by
    rw [hμ', if_neg hb] at h1
    by_cases e : b = H.n
    · rw [if_pos e] at h1; cases h1; exact ⟨e, rfl⟩
    · rw [if_neg e] at h1; cases h1
  have hlo : ∀ b i, b < H.n → μ' b = some i → μ b = some i := fun b i hb h1 => by rw [hμ', if_pos hb] at h1; exact h1
  have hnro : (AObj.cells cs el k lo up).isRo = false := by rcases hk with rfl | rfl <;> rfl
  have hsame : μ' H.n = some ic := by rw [hμ', if_neg (Nat.lt_irrefl _), if_pos rfl]
  refine ⟨μ', u, rfl, ⟨ic, hsame, hcap'⟩, ⟨fun b o i hb hi => ?_, fun b d i j hb hd hi hj hij => ?_, fun b i hi => ?_, fun b hb => ?_⟩, ?_⟩
  · by_cases h1 : b < H.n
    · rw [hget, if_neg (by omega)] at hb
      have hi' := hlo b i h1 hi
      have r1 := q2.rel b o i (by rw [hlow b h1]; exact hb) (q3.le b i hi')
      exact (ORel.back q3.le (hh.rel b o i hb hi') r1).mono hle rfl
    · obtain ⟨rfl, rfl⟩ := hup b i h1 hi
      rw [hget, if_pos rfl] at hb; cases hb
      obtain ⟨cc, flo, fhi, r1, r2, r3⟩ := q2.rel c _ i hg1 hic
      exact ⟨cc, flo, fhi, r1, refFrees_cells hcs r2, r3⟩
  · obtain ⟨od, hd, hro⟩ := hd
    by_cases h1 : b < H.n
    · have hi' := hlo b i h1 hi
      rw [hget, if_neg (by omega)] at hb
      by_cases h2 : d < H.n
      · rw [hget, if_neg (by omega)] at hd
        exact hh.inj b d i j hb ⟨od, hd, hro⟩ hi' (hlo d j h2 hj) hij
      · obtain ⟨rfl, rfl⟩ := hup d j h2 hj
        have := q2.inj b c i j (by rw [hlow b h1]; exact hb) ⟨_, hg1, hnro⟩ (q3.le b i hi') hic hij
        omega
    · obtain ⟨rfl, rfl⟩ := hup b i h1 hi
      by_cases h2 : d < H.n
      · rw [hget, if_neg (by omega)] at hd
        have := q2.inj c d i j (by rw [hg1]; simp) ⟨od, by rw [hlow d h2]; exact hd, hro⟩ hic (q3.le d j (hlo d j h2 hj)) hij
        omega
      · exact (hup d j h2 hj).1.symm
  · by_cases h1 : b < H.n
    · have := hh.lt b i (hlo b i h1 hi)
      exact ⟨by rw [hgn]; omega, Nat.lt_of_lt_of_le this.2 q3.size⟩
    · obtain ⟨rfl, rfl⟩ := hup b i h1 hi
      exact ⟨by rw [hgn]; omega, (q2.lt c i hic).2⟩
  · rw [hgn] at hb
    rw [hget, if_neg (by omega)]
    exact hh.bound b (by omega)
  · refine ⟨hle, q3.size, by rw [hgn]; omega, fun b hb hl => ?_, fun b hb hm => ?_, fun r hr ho => q3.old r hr ho, fun b i hb hi => ?_, fun b o i hb hr hi => ?_, q3.os, q3.out, q3.tape, q3.drawn⟩
    · rw [hget, if_neg (by omega)] at hl; exact hl
    · rw [hget, if_neg (by omega)]
    · by_cases h1 : b < H.n
      · have := hlo b i h1 hi; rw [hb] at this; cases this
      · obtain ⟨rfl, rfl⟩ := hup b i h1 hi
        exact ⟨Nat.le_refl _, (q3.new c i hμc hic).2⟩
    · have hbn := (hh.lt b i hi).1
      refine ⟨by rw [hget, if_neg (by omega)]; exact hb, (q3.ro b o i hb hr hi).2⟩
/-- Of all that was laid nothing is needed. -/
theorem Ends.none {μ : Mu} {H H1 : AHeap} {w w' : World} {v : AV} (hv : refFree v = true) (hlow : ∀ b, b < H.n → H1.get b = H.get b) (hh : HRel μ H w) {e : Ending} (h : Ends μ H w (.ret v H1) e w') : Ends μ H w (.ret v H) e w' := by
  obtain ⟨μ1, u, rfl, q1, q2, q3⟩ := h
  refine ⟨μ, u, rfl, refFree_rel _ _ hv q1, ⟨fun b o i hb hi => ?_, fun b d i j hb hd hi hj hij => ?_, fun b i hi => ?_, hh.bound⟩, ?_⟩
  · have hbn := (hh.lt b i hi).1
    exact ORel.back q3.le (hh.rel b o i hb hi) (q2.rel b o i (by rw [hlow b hbn]; exact hb) (q3.le b i hi))
  · exact hh.inj b d i j hb hd hi hj hij
  · have := hh.lt b i hi
    exact ⟨this.1, Nat.lt_of_lt_of_le this.2 q3.size⟩
  · refine ⟨Le.refl μ, q3.size, Nat.le_refl _, fun _ _ hl => hl, fun _ _ _ => rfl, fun r hr ho => q3.old r hr ho, fun b i hb hi => (by rw [hb] at hi; cases hi), fun b o i hb hr hi => ⟨hb, (q3.ro b o i hb hr hi).2⟩, q3.os, q3.out, q3.tape, q3.drawn⟩
end
end AEv
