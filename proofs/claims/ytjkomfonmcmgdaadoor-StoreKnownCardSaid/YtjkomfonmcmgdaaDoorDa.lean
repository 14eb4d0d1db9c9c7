/-
  PROVED HERE: contracts of functions (Da). No condition beside each statement's own.
-/
import Derived.Test.YtjkomfonmcmgdaaDoorAed
import Derived.OpenShut
import Derived.ChangeSame
import Derived.Lay
import Derived.Laws.IdiomRangeMap
import Derived.Test.YtjkomfonmcmgdaaDoorSxa
set_option linter.unusedVariables false
set_option linter.unusedSimpArgs false
namespace AEv
open Go Go.RowKit

/-- A table of bytes: the variable's number, the bytes. -/
structure Tab where
  g : Nat
  xs : List Nat
def u8s : List Nat → List AV
  | [] => []
  | x :: l => .int .u8 (Int.ofNat x) :: u8s l
def Tab.obj (els : Nat → Nat) (t : Tab) : AObj := .cells (u8s t.xs) (els t.g) .ro 0 0
def eqU8 : List AV → List Nat → Bool
  | [], [] => true
  | .int .u8 (.ofNat n) :: l, x :: xs => match Nat.beq n x with
    | true => eqU8 l xs
    | false => false
  | _, _ => false
def isTab (h : AHeap) (t : Tab) : Bool := match h.get t.g with
  | some (.cells cs _ .ro 0 0) => eqU8 cs t.xs
  | _ => false
def setRo (els : Nat → Nat) (h : AHeap) (t : Tab) : AHeap := h.set t.g (some (t.obj els))
def heapT (G : Nat) (els : Nat → Nat) (ts : List Tab) (rows : List (List AV × Nat)) : AHeap := rows.foldl pushRo (ts.foldl (setRo els) (emptyHeap G))
def muT (G : Nat) (sz : Nat → Nat) (is : List Img) : Mu := fun b => if b < G then some ⟨b, 0, sz b⟩ else is[b - G]?
theorem foldSet (els : Nat → Nat) : ∀ (ts : List Tab) (h : AHeap), (ts.foldl (setRo els) h).n = h.n ∧ ∀ b, (ts.foldl (setRo els) h).get b = h.get b ∨ ∃ t ∈ ts, t.g = b ∧ (ts.foldl (setRo els) h).get b = some (t.obj els)
  | [], h => ⟨rfl, fun b => .inl rfl⟩
  | t :: ts, h => by
    obtain ⟨q1, q2⟩ := foldSet els ts (setRo els h t)
    have hg : ∀ b, (setRo els h t).get b = if b = t.g then some (t.obj els) else h.get b := fun b => AHeap.get_set _ _ _ _
    refine ⟨q1, fun b => ?_⟩
    rw [List.foldl_cons]
    rcases q2 b with q | ⟨t', h1, h2, h3⟩
    · rw [q, hg]
      by_cases e : b = t.g
      · rw [if_pos e]; exact .inr ⟨t, by simp, e.symm, rfl⟩
      · rw [if_neg e]; exact .inl rfl
    · exact .inr ⟨t', by simp [h1], h2, h3⟩
theorem heapT_n (G : Nat) (els : Nat → Nat) (ts : List Tab) (rows : List (List AV × Nat)) (hts : ∀ t ∈ ts, t.g < G) : (heapT G els ts rows).n = G + rows.length ∧ ∀ b, (heapT G els ts rows).get b = if b < G then (ts.foldl (setRo els) (emptyHeap G)).get b else (rows[b - G]?).map fun r => .cells r.1 r.2 .ro 0 0 := by
  obtain ⟨q1, q2⟩ := foldSet els ts (emptyHeap G)
  have hn : (ts.foldl (setRo els) (emptyHeap G)).n = G := q1
  obtain ⟨r1, r2⟩ := foldRo rows (ts.foldl (setRo els) (emptyHeap G)) fun b hb => by
    rw [hn] at hb
    rcases q2 b with q | ⟨t, h1, h2, _⟩
    · rw [q]; rfl
    · have := hts t h1; omega
  rw [hn] at r1 r2
  exact ⟨r1, r2⟩
/-- A table lies in the world. -/
def TabAt (W : World) (els : Nat → Nat) (t : Tab) : Prop := ∃ c fz, W.heap[t.g]? = some (.cells c (els t.g) fz) ∧ ∀ (j : Nat) (x : Nat), t.xs[j]? = some x → c[j]? = some (.int .u8 (Int.ofNat x))
theorem u8s_get : ∀ (xs : List Nat) (j : Nat), (u8s xs)[j]? = (xs[j]?).map fun x => .int .u8 (Int.ofNat x)
  | [], j => by simp [u8s]
  | x :: xs, 0 => by simp [u8s]
  | x :: xs, j + 1 => by simp [u8s, u8s_get xs j]
def szW (W : World) (g : Nat) : Nat := match W.heap[g]? with
  | some (.cells c _ _) => c.size
  | _ => 0
theorem start_tabs {P : Program} {W : World} (hW : P.globals.size ≤ W.heap.size) (els : Nat → Nat) (ts : List Tab) (hts : ∀ t ∈ ts, t.g < P.globals.size ∧ TabAt W els t) (l : List (Img × List AV × Nat)) (hl : ∀ x ∈ l, RowW W x.1 x.2.1 x.2.2) :
    HRel (muT P.globals.size (szW W) (l.map (·.1))) (heapT P.globals.size els ts (l.map (·.2))) W ∧ GRel P (muT P.globals.size (szW W) (l.map (·.1))) ∧ Roed (heapT P.globals.size els ts (l.map (·.2))) := by
  obtain ⟨hn, hg⟩ := heapT_n P.globals.size els ts (l.map (·.2)) fun t ht => (hts t ht).1
  have ro : ∀ b o, (heapT P.globals.size els ts (l.map (·.2))).get b = some o → (∃ x, l[b - P.globals.size]? = some x ∧ ¬ b < P.globals.size ∧ o = .cells x.2.1 x.2.2 .ro 0 0) ∨ (b < P.globals.size ∧ ∃ t ∈ ts, t.g = b ∧ o = t.obj els) := by
    intro b o h
    rw [hg] at h
    split at h
    · rename_i hb
      rcases (foldSet els ts (emptyHeap P.globals.size)).2 b with q | ⟨t, h1, h2, h3⟩
      · rw [q] at h; cases h
      · rw [h3] at h; cases h; exact .inr ⟨hb, t, h1, h2, rfl⟩
    · rename_i hb
      rw [List.getElem?_map] at h
      cases hx : l[b - P.globals.size]? with
      | none => rw [hx] at h; cases h
      | some x => rw [hx] at h; cases h; exact .inl ⟨x, rfl, hb, rfl⟩
  refine ⟨⟨fun b o j h hj => ?_, fun b c' j k h1 h2 => ?_, fun b j h => ?_, fun b h => ?_⟩, fun g hg => ⟨⟨g, 0, szW W g⟩, by simp [muT, hg], rfl, rfl⟩, fun b o h => ?_⟩
  · rcases ro b o h with ⟨x, hx, hb, rfl⟩ | ⟨hb, t, ht, rfl, rfl⟩
    · unfold muT at hj
      rw [if_neg hb, List.getElem?_map, hx] at hj
      cases hj
      obtain ⟨c, fz, q1, q2, q3⟩ := hl x (List.mem_of_getElem? hx)
      exact ⟨c, fz.1, fz.2, q1, q2 _, q3, trivial⟩
    · unfold muT at hj
      rw [if_pos hb] at hj
      cases hj
      obtain ⟨_, c, fz, q1, q2⟩ := hts t ht
      refine ⟨c, fz.1, fz.2, q1, fun j v hv => ?_, by show 0 + szW W t.g = c.size; unfold szW; rw [q1]; simp, trivial⟩
      rw [u8s_get] at hv
      cases hx : t.xs[j]? with
      | none => rw [hx] at hv; cases hv
      | some x =>
        rw [hx] at hv; cases hv
        exact ⟨_, by rw [Nat.zero_add]; exact q2 j x hx, rfl⟩
  · obtain ⟨o, h2, h3⟩ := h2
    rcases ro _ o h2 with ⟨x, _, _, rfl⟩ | ⟨_, t, _, _, rfl⟩ <;> cases h3
  · rw [hn, List.length_map]
    unfold muT at h
    split at h
    · rename_i hb; cases h; exact ⟨by omega, Nat.lt_of_lt_of_le hb hW⟩
    · rw [List.getElem?_map] at h
      cases hx : l[b - P.globals.size]? with
      | none => rw [hx] at h; cases h
      | some x =>
        rw [hx] at h; cases h
        obtain ⟨c, fz, q1, _⟩ := hl x (List.mem_of_getElem? hx)
        have := (List.getElem?_eq_some_iff.1 hx).1
        exact ⟨by omega, (Array.getElem?_eq_some_iff.1 q1).1⟩
  · rw [hn, List.length_map] at h
    rw [hg, if_neg (by omega), List.getElem?_map, List.getElem?_eq_none (by omega)]; rfl
  · rcases ro b o h with ⟨x, _, _, rfl⟩ | ⟨_, t, _, _, rfl⟩ <;> rfl

/-! ### Calls told from a table, where tables lie -/
section
variable {P : Program}
end
end AEv

namespace AEv
open Go Go.ChangeShapes Go.WideShapes Go.ChangeAt Go.RowKit

end AEv

namespace AEv
open Go Go.RowKit

section
variable {P : Program}
end
end AEv

namespace AEv
open Go Go.ChangeShapes Go.WideShapes Go.ChangeAt Go.RowKit

end AEv

namespace AEv
open Go

end AEv

namespace AEv
open Go

end AEv

namespace AEv
open Go Go.RowKit

section
variable {P : Program}
end
end AEv

namespace AEv
open Go Go.RowKit

section
variable {P : Program}
end
end AEv

namespace AEv
open Go Go.RowKit

section
variable {P : Program}
end
end AEv

namespace AEv
open Go

section
variable {P : Program}

/-- What a piece of code may come to. -/
def Does (P : Program) (need nt : Nat) (rd : Option Nat) (c : Code) (r : Tr) (d : List ADef) (q : Rc) (H : AHeap) (R : AEx → Tr → List ADef → Rc → AHeap → Prop) : Prop :=
  ∀ (b : Frame) (μ : Mu) (w : World) (a : Act) (k : List Item) (cs0 cs : List Frame), RdRel μ b rd → RegsRel need μ r a.tmps → a.tmps.size = nt → HRel μ H w → GRel P μ → DRels μ d a.defers → QRel μ b.kind cs0 q cs →
    ∃ e r' d' q' H', R e r' d' q' H' ∧ CAll P need nt μ H w b k cs0 (lone (b.atR a (.code c :: k)) cs w) (.ok e r' d' q' H')

variable {need nt : Nat} {rd : Option Nat} {r : Tr} {d : List ADef} {q : Rc} {H : AHeap} {R R1 R2 : AEx → Tr → List ADef → Rc → AHeap → Prop}

theorem Does.of_run {call : CallT → List AV → AHeap → FRes} (hc : CallOK P call) (hdr : ∀ need nt, DrawSpec P need nt call) {c : Code} (hok : okCode nt c = true) {e : AEx} {r' : Tr} {d' : List ADef} {q' : Rc} {H' : AHeap}
    (h : evCode P need rd call c r d q H = .ok e r' d' q' H') (hR : R e r' d' q' H') : Does P need nt rd c r d q H R := fun b μ w a k cs0 cs hrd hr hsz hh hg hd hq => by
  have h1 := evCode_ok hc (hdr need nt) (rangeSpec hc) rd c hok b r d q H μ w a k cs0 cs hrd hr hsz hh hg hd hq
  rw [h] at h1
  exact ⟨e, r', d', q', H', hR, h1⟩
theorem Does.mono {c : Code} (h : Does P need nt rd c r d q H R1) (hm : ∀ e r' d' q' H', R1 e r' d' q' H' → R2 e r' d' q' H') : Does P need nt rd c r d q H R2 := fun b μ w a k cs0 cs hrd hr hsz hh hg hd hq => by
  obtain ⟨e, r', d', q', H', h1, h2⟩ := h b μ w a k cs0 cs hrd hr hsz hh hg hd hq
  exact ⟨e, r', d', q', H', hm _ _ _ _ _ h1, h2⟩
theorem Does.seq {x y : Code} (h : Does P need nt rd x r d q H R1) (h2 : ∀ r' d' q' H', R1 .nrm r' d' q' H' → Does P need nt rd y r' d' q' H' R2) (h3 : ∀ e r' d' q' H', e ≠ .nrm → R1 e r' d' q' H' → R2 e r' d' q' H') : Does P need nt rd (.seq x y) r d q H R2 := fun b μ w a k cs0 cs hrd hr hsz hh hg hd hq => by
  obtain ⟨e, r', d', q', H', k1, k2⟩ := h b μ w a (.code y :: k) cs0 cs hrd hr hsz hh hg hd hq
  obtain ⟨μ', w', a', cs', s1, s2, s3, s4, s5, s6, s7⟩ := k2
  by_cases he : e = .nrm
  · subst he
    obtain ⟨e2, r2, d2, q2, H2, m1, m2⟩ := h2 _ _ _ _ k1 b μ' w' a' k cs0 cs' (hrd.mono s5.le) s2 s3 s4 (hg.mono s5.le) s6 s7
    exact ⟨e2, r2, d2, q2, H2, m1, m2.of_steps hh s4 (Steps.head stepR_seq s1) s5⟩
  · exact ⟨e, r', d', q', H', h3 _ _ _ _ _ he k1, μ', w', a', cs', (s1.pass (fun id h => by cases h) he).of_steps (.one stepR_seq), s2, s3, s4, s5, s6, s7⟩
/-- What a block makes of an end. -/
def unblock (id : Nat) : AEx → AEx
  | .exit i => if i = id then .nrm else .exit i
  | e => e
theorem Does.block {id : Nat} {c : Code} (h : Does P need nt rd c r d q H R1) (hm : ∀ e r' d' q' H', R1 e r' d' q' H' → R2 (unblock id e) r' d' q' H') : Does P need nt rd (.block id c) r d q H R2 := fun b μ w a k cs0 cs hrd hr hsz hh hg hd hq => by
  obtain ⟨e, r', d', q', H', k1, k2⟩ := h b μ w a (.inBlock id :: k) cs0 cs hrd hr hsz hh hg hd hq
  refine ⟨unblock id e, r', d', q', H', hm _ _ _ _ _ k1, ?_⟩
  obtain ⟨μ', w', a', cs', s1, s2, s3, s4, s5, s6, s7⟩ := k2
  cases e with
  | nrm => exact ⟨μ', w', a', cs', Steps.head stepR_block (Steps.trans s1 (.one stepR_inBlock)), s2, s3, s4, s5, s6, s7⟩
  | exit i =>
    obtain ⟨kk, e1, e2⟩ := s1
    by_cases hid : i = id
    · simp only [unblock, hid, if_true]
      subst hid
      have e3 : exitTo i kk = some k := by rw [e1]; simp [exitTo]
      exact ⟨μ', w', a', cs', Steps.head stepR_block (Steps.trans e2 (.one (stepR_exit e3))), s2, s3, s4, s5, s6, s7⟩
    · simp only [unblock, if_neg hid]
      have : (id == i) = false := by simp; exact fun h => hid h.symm
      exact ⟨μ', w', a', cs', ⟨kk, e1.trans (by simp [exitTo, this]), Steps.head stepR_block e2⟩, s2, s3, s4, s5, s6, s7⟩
  | ret => obtain ⟨kk, e2⟩ := s1; exact ⟨μ', w', a', cs', ⟨kk, Steps.head stepR_block e2⟩, s2, s3, s4, s5, s6, s7⟩
  | goto l => exact s1.elim
  | pan v => obtain ⟨kk, u, e1, e2⟩ := s1; exact ⟨μ', w', a', cs', ⟨kk, u, e1, Steps.head stepR_block e2⟩, s2, s3, s4, s5, s6, s7⟩
/-- What a loop comes to: an invariant with a measure. -/
def LoopR (inv : Nat → Tr → List ADef → Rc → AHeap → Prop) (n : Nat) (R : AEx → Tr → List ADef → Rc → AHeap → Prop) : AEx → Tr → List ADef → Rc → AHeap → Prop := fun e r d q H => (e = .nrm ∧ ∃ m, m < n ∧ inv m r d q H) ∨ (e ≠ .nrm ∧ R e r d q H)
theorem Does.loop {c : Code} (inv : Nat → Tr → List ADef → Rc → AHeap → Prop) (hstep : ∀ n r d q H, inv n r d q H → Does P need nt rd c r d q H (LoopR inv n R)) (n0 : Nat) (h0 : inv n0 r d q H) : Does P need nt rd (.loop c) r d q H R := fun b μ w a k cs0 cs hrd hr hsz hh hg hd hq => by
  have key : ∀ (n m : Nat), m < n → ∀ (r : Tr) (d : List ADef) (q : Rc) (H : AHeap) (μ : Mu) (w : World) (a : Act) (cs : List Frame), inv m r d q H → RdRel μ b rd → RegsRel need μ r a.tmps → a.tmps.size = nt → HRel μ H w → GRel P μ → DRels μ d a.defers → QRel μ b.kind cs0 q cs →
      ∃ e r' d' q' H', R e r' d' q' H' ∧ CAll P need nt μ H w b k cs0 (lone (b.atR a (.code c :: .inLoop c :: k)) cs w) (.ok e r' d' q' H') := by
    intro n
    induction n with
    | zero => intro m hm; omega
    | succ n ih =>
      intro m hm r d q H μ w a cs hi hrd hr hsz hh hg hd hq
      obtain ⟨e, r', d', q', H', k1, μ', w', a', cs', s1, s2, s3, s4, s5, s6, s7⟩ := hstep m r d q H hi b μ w a (.inLoop c :: k) cs0 cs hrd hr hsz hh hg hd hq
      rcases k1 with ⟨rfl, m', hm', hi'⟩ | ⟨he, hR⟩
      · obtain ⟨e2, r2, d2, q2, H2, m1, m2⟩ := ih m' (by omega) r' d' q' H' μ' w' a' cs' hi' (hrd.mono s5.le) s2 s3 s4 (hg.mono s5.le) s6 s7
        exact ⟨e2, r2, d2, q2, H2, m1, m2.of_steps hh s4 (Steps.trans s1 (.one stepR_inLoop)) s5⟩
      · exact ⟨e, r', d', q', H', hR, μ', w', a', cs', s1.pass (fun id h => by cases h) he, s2, s3, s4, s5, s6, s7⟩
  obtain ⟨e, r', d', q', H', k1, k2⟩ := key (n0 + 1) n0 (by omega) r d q H μ w a cs h0 hrd hr hsz hh hg hd hq
  exact ⟨e, r', d', q', H', k1, k2.of_steps hh hh (.one stepR_loop) (Adv.refl _ _ _)⟩

/-! ### The next entry of a map, whichever -/
theorem entsRel_mem {μ : Mu} : ∀ {es : List AEnt} {ms : List MapEntry}, EntsRel μ es ms → ∀ m ∈ ms, ∃ e ∈ es, EntRel μ e m
  | [], _, h, m, hm => by cases h; cases hm
  | e :: es, _, ⟨m0, ms, rfl, h1, h2⟩, m, hm => by
    rcases List.mem_cons.1 hm with rfl | hm
    · exact ⟨e, by simp, h1⟩
    · obtain ⟨e', h3, h4⟩ := entsRel_mem h2 m hm
      exact ⟨e', by simp [h3], h4⟩
theorem entsRel_mem' {μ : Mu} : ∀ {es : List AEnt} {ms : List MapEntry}, EntsRel μ es ms → ∀ e ∈ es, ∃ m ∈ ms, EntRel μ e m
  | [], _, h, m, hm => by cases hm
  | e :: es, _, ⟨m0, ms, rfl, h1, h2⟩, m, hm => by
    rcases List.mem_cons.1 hm with rfl | hm
    · exact ⟨m0, by simp, h1⟩
    · obtain ⟨e', h3, h4⟩ := entsRel_mem' h2 m hm
      exact ⟨e', by simp [h3], h4⟩
theorem next_map_ok {μ : Mu} {w : World} (hh : HRel μ H w) {t : TypeId} {ri m since last clock : Nat} {seen : List Nat} {es : List AEnt} {iv : Value} (hi : VRel μ (.ptr ri 0) iv)
    (hit : H.get ri = some (.mapIter (some m) since seen last)) (hm : H.get m = some (.map es clock)) (hold : ∀ e ∈ es, e.born < since) (hsl : since ≤ last) :
    ((∀ e ∈ es, e.born ∈ seen) ∧ ValOK P μ H w (Instr.next iv false t) (.tup [.bool false]) H) ∨
    ∃ e ∈ es, e.born ∉ seen ∧ ValOK P μ H w (Instr.next iv false t) (.tup [.bool true, e.key, e.val]) (H.set ri (some (.mapIter (some m) since (seen ++ [e.born]) clock))) := by
  obtain ⟨i, him, rfl⟩ := hi
  obtain ⟨e0, j, hj, e1⟩ := hh.rel _ _ i hit him
  obtain ⟨ib, i0, isz⟩ := i
  simp only at e0; subst e0
  have e1' : w.heap[ib]? = some (.mapIter (some j.blk) since ⟨seen⟩ last) := e1
  obtain ⟨ents, f1, f2⟩ := hh.rel _ _ j hm hj
  have hget : (getObj ib).run P w = .ok (.mapIter (some j.blk) since ⟨seen⟩ last) w := by simp [getObj, Sem.run, e1']
  have hget2 : (getObj j.blk).run P w = .ok (.map ⟨ents⟩ clock) w := by simp [getObj, Sem.run, f1]
  have holdm : ∀ x ∈ (⟨ents⟩ : Array MapEntry).toList, x.born < since := fun x hx => by
    obtain ⟨e, he, hr⟩ := entsRel_mem f2 x hx
    rw [← hr.2.2]; exact hold e he
  have htest := next_test_false ⟨seen⟩ ⟨ents⟩ since last holdm hsl
  have hmem : ∀ x ∈ (Array.filter (fun e => !(⟨seen⟩ : Array Nat).contains e.born) (⟨ents⟩ : Array MapEntry)).toList, x.born < since := fun x hx => holdm x (by simp at hx ⊢; exact hx.1)
  have hin : ∀ x ∈ (Array.filter (fun e => !(⟨seen⟩ : Array Nat).contains e.born) (⟨ents⟩ : Array MapEntry)).toList, x ∈ ents ∧ x.born ∉ seen := fun x hx => by
    simp at hx; exact hx
  have hall : (Array.filter (fun e => !(⟨seen⟩ : Array Nat).contains e.born) (⟨ents⟩ : Array MapEntry)).size = 0 → ∀ x ∈ ents, x.born ∈ seen := fun h0 x hx => by
    by_cases hs : x.born ∈ seen
    · exact hs
    · exfalso
      have : x ∈ Array.filter (fun e => !(⟨seen⟩ : Array Nat).contains e.born) (⟨ents⟩ : Array MapEntry) := by simp; exact ⟨hx, hs⟩
      rw [Array.eq_empty_of_size_eq_zero h0] at this
      simp at this
  generalize hL : Array.filter (fun e => !(⟨seen⟩ : Array Nat).contains e.born) (⟨ents⟩ : Array MapEntry) = L at hmem hin hall
  have g1 : L.filter (fun x => decide (x.born < since)) = L := Array.filter_eq_self.2 (fun x hx => by simpa using hmem x (by simpa using hx))
  have g2 : L.filter (fun x => decide (x.born ≥ since)) = #[] := by
    rw [Array.filter_eq_empty_iff]
    intro x hx
    have := hmem x (by simpa using hx)
    simp
    omega
  by_cases h0 : L.size = 0
  · left
    refine ⟨fun e he => ?_, ?_⟩
    · obtain ⟨x, hx, hr⟩ := entsRel_mem' f2 e he
      rw [hr.2.2]; exact hall h0 x hx
    · refine .same hh (v' := .tuple #[.bool false]) ?_ ⟨_, rfl, _, _, rfl, rfl, rfl⟩
      simp only [Instr.next, Sem.run_bind, hget, hget2, Result.andThen_ok, htest, Bool.false_eq_true, if_false]
      rw [hL]
      simp only [g1, g2, Array.append_empty]
      have : L = #[] := Array.eq_empty_of_size_eq_zero h0
      subst this
      simp [choose, Sem.run, Question.forced]
  · right
    have hne : L.isEmpty = false := by simp [Array.isEmpty, h0]
    have hch : ∃ (jj : Nat) (w1 : World), jj < L.size ∧ w1.heap = w.heap ∧ w1.os = w.os ∧ w1.output = w.output ∧ w1.tape = w.tape ∧ w.drawn ≤ w1.drawn ∧ (choose (Question.mapNext L.size)).run P w = .ok jj w1 := by
      by_cases hf : L.size ≤ 1
      · exact ⟨0, w, by omega, rfl, rfl, rfl, rfl, Nat.le_refl _, by simp [choose, Sem.run, Question.forced, hf]⟩
      · exact ⟨_, w.drew, Nat.mod_lt _ (by omega), rfl, rfl, rfl, rfl, Nat.le_succ _, by
          simp only [choose, Sem.run, Question.forced, decide_eq_true_eq, hf, if_false, Question.cut]
          rfl⟩
    obtain ⟨jj, w1, hjj, a1, a2, a3, a4, a5, hrun⟩ := hch
    obtain ⟨hx1, hx2⟩ := hin L[jj] (by simp)
    obtain ⟨e, he, hr⟩ := entsRel_mem f2 L[jj] hx1
    refine ⟨e, he, by rw [hr.2.2]; exact hx2, ?_⟩
    have hh1 := hh.of_heap a1
    have hltb : ib < w1.heap.size := by rw [a1]; exact (hh.lt _ _ him).2
    obtain ⟨r1, r2⟩ := hh1.update (w' := { w1 with heap := w1.heap.setIfInBounds ib (.mapIter (some j.blk) since ⟨seen ++ [e.born]⟩ clock) }) (o' := .mapIter (some m) since (seen ++ [e.born]) clock) hit rfl him (by simp) (fun r hr => by simp [Array.getElem?_setIfInBounds]; intro e; exact absurd e.symm hr) rfl rfl rfl
      ⟨rfl, j, hj, by simp [hltb]⟩
    refine ⟨μ, _, .tuple #[.bool true, L[jj].key, L[jj].val], ?_, ⟨_, rfl, _, _, rfl, rfl, _, _, rfl, hr.1, _, _, rfl, hr.2.1, rfl⟩, r1, Adv.trans hh hh1 (Adv.of_heap a1 a2 a3 a4 a5) r2⟩
    have e1w : w1.heap[ib]? = some (.mapIter (some j.blk) since ⟨seen⟩ last) := by rw [a1]; exact e1'
    have hset : (setObj ib (.mapIter (some j.blk) since ((⟨seen⟩ : Array Nat).push L[jj].born) clock)).run P w1 = .ok () { w1 with heap := w1.heap.setIfInBounds ib (.mapIter (some j.blk) since ⟨seen ++ [e.born]⟩ clock) } := by
      have : ((⟨seen⟩ : Array Nat).push L[jj].born) = ⟨seen ++ [e.born]⟩ := by rw [hr.2.2]; apply Array.ext'; simp
      rw [this]
      simp [setObj, Sem.run, e1w]
    simp only [Instr.next, Sem.run_bind, hget, hget2, Result.andThen_ok, htest, Bool.false_eq_true, if_false]
    rw [hL]
    simp only [g1, g2, Array.append_empty, hne, Bool.false_eq_true, if_false, Array.empty_append, Array.size_map, hrun, Result.andThen_ok, Array.getElem?_map, Array.getElem?_eq_getElem hjj, Option.map_some, Sem.run_bind, hset]
    rfl

theorem Does.next {call : CallT → List AV → AHeap → FRes} (hc : CallOK P call) {id : Nat} {ops : Array Oper} {o : Oper} {rest : List Oper} (ho : ops.toList = o :: rest) {it : Operand} (hop : o.op = .next it false) (hgd : o.guard = none) (hok : okCode nt (.region id ops false) = true)
    {ri m since last clock : Nat} {seen : List Nat} {es : List AEnt} (hra : getAcc 0 [] r (accOf P need [] it) = .ptr ri 0) (hit : H.get ri = some (.mapIter (some m) since seen last)) (hm : H.get m = some (.map es clock)) (hold : ∀ e ∈ es, e.born < since) (hsl : since ≤ last)
    (hend : (∀ e ∈ es, e.born ∈ seen) → ∃ e' r' d' q' H', toC need r (planL P need ops rest (nextLoc o 0 []) 1) (evSteps P need rd.isSome call r (planS P need ops rest (nextLoc o 0 []) 1) [.tup [.bool false]] d q H) = .ok e' r' d' q' H' ∧ R e' r' d' q' H')
    (hone : ∀ e ∈ es, e.born ∉ seen → ∃ e' r' d' q' H', toC need r (planL P need ops rest (nextLoc o 0 []) 1) (evSteps P need rd.isSome call r (planS P need ops rest (nextLoc o 0 []) 1) [.tup [.bool true, e.key, e.val]] d q (H.set ri (some (.mapIter (some m) since (seen ++ [e.born]) clock)))) = .ok e' r' d' q' H' ∧ R e' r' d' q' H') :
    Does P need nt rd (.region id ops false) r d q H R := fun b μ w a k cs0 cs hrd hr hsz hh hg hd hq => by
  simp only [okCode, Bool.and_eq_true, List.all_eq_true] at hok
  have hops : ∀ o ∈ ops.toList, ∀ t, o.dst = some t → t < nt := fun o ho t ht => by
    have := hok.1 o ho
    rw [ht] at this
    simpa using this
  have hri0 := RInv.init (P := P) (need := need) hr
  have hev := hri0.eval (a := a) hg it
  rw [hra] at hev
  have ho0 : ops[0]? = some o := by rw [← Array.getElem?_toList, ho]; rfl
  have hmem : o ∈ ops.toList := by rw [ho]; simp
  have hdst : ∀ t, o.dst = some t → t < a.tmps.size := fun t h => by rw [hsz]; exact hops o hmem t h
  have hsz0 : ops.size = rest.length + 1 := by
    have := congrArg List.length ho
    simpa using this
  have hrng : List.range ops.size = 0 :: List.range' 1 rest.length := by rw [hsz0, List.range_eq_range', List.range'_succ]
  have key : ∀ (v : AV) (H1 : AHeap), ValOK P μ H w (Instr.next (a.eval it) false o.type) v H1 →
      CAll P need nt μ H w b k cs0 (lone (b.atR a (.code (.region id ops false) :: k)) cs w) (toC need r (planL P need ops rest (nextLoc o 0 []) 1) (evSteps P need rd.isSome call r (planS P need ops rest (nextLoc o 0 []) 1) [v] d q H1)) := by
    intro v H1 hv
    obtain ⟨μ', w', u, hrun, hu, hh', hadv⟩ := hv
    have hw : Region.wanted o (yielded ops a.tmps) = true := by simp [Region.wanted, hgd]
    have hst := stepGR_op (P := P) (b := b) (a := a) (k := k) (cs := cs) (w := w) (rest := List.range' 1 rest.length) ho0 hw
    have hsem : o.semAt b.roundOf a.eval = execOp a.eval o := Oper.semAt_eq _ _ _ fun c e => by rw [hop] at e; cases e
    rw [hsem] at hst
    obtain ⟨g1, _⟩ := stepG_goes hst
    have hex : (execOp a.eval o).run P w = .ok (.value u) w' := by
      have : execOp a.eval o = (do pure (.value (← Instr.next (a.eval it) false o.type))) := by
        obtain ⟨dst, op, type, pos, after, guard⟩ := o
        simp only at hop
        subst hop
        rfl
      rw [this]
      simp only [Sem.run_bind, hrun, Result.andThen_ok]
      rfl
    have hs := g1 u w' hex
    have hfin : (b.atR a (.inRegion ops (0 :: List.range' 1 rest.length) :: k)).finish u = b.atR (a.put o.dst u) (.inRegion ops (List.range' 1 rest.length) :: k) := by
      rw [Frame.finish_atR, ho0]; rfl
    rw [hfin] at hs
    have hri' := (hri0.mono hadv.le).step (a := a) (o := o) hdst hu
    have hrest : ops.toList.drop 1 = rest := by rw [ho]; rfl
    have ih := evSteps_ok (P := P) (need := need) (k := k) hc hops (b := b) (inR := rd.isSome) hrd.isSome (r := r) (cs0 := cs0) rest 1 (nextLoc o 0 []) 1 [v] d q μ' H1 w' (a.put o.dst u) cs hrest rfl hri' ((put_size _ _ _).trans hsz) hh' (hg.mono hadv.le) (by rw [put_defers]; exact hd.mono hadv.le) (hq.mono hadv.le)
    have h2 := RAll.code ih
    refine CAll.of_steps hh hh' (Steps.trans (.one stepR_region) ?_) hadv h2
    rw [hrng]
    exact hs
  rcases next_map_ok (P := P) hh (t := o.type) hev hit hm hold hsl with ⟨hall, hv⟩ | ⟨e, he, hns, hv⟩
  · obtain ⟨e', r', d', q', H', h1, h2⟩ := hend hall
    have := key _ _ hv
    rw [h1] at this
    exact ⟨e', r', d', q', H', h2, this⟩
  · obtain ⟨e', r', d', q', H', h1, h2⟩ := hone e he hns
    have := key _ _ hv
    rw [h1] at this
    exact ⟨e', r', d', q', H', h2, this⟩

/-! ### Blocks that nobody needs -/
theorem HRel.dropped {μ : Mu} {w : World} {Hf : AHeap} (hh : HRel μ H w) (hn : Hf.n = H.n) (hsub : ∀ b, Hf.get b = H.get b ∨ Hf.get b = none) : HRel μ Hf w := by
  have up : ∀ b o, Hf.get b = some o → H.get b = some o := fun b o h => by
    rcases hsub b with e | e
    · rw [← e]; exact h
    · rw [e] at h; cases h
  refine ⟨fun b o i hb hi => hh.rel b o i (up b o hb) hi, fun b c i j hb hc hi hj hij => ?_, fun b i hi => by rw [hn]; exact hh.lt b i hi, fun b hb => ?_⟩
  · obtain ⟨o, h1, h2⟩ := hc
    refine hh.inj b c i j ?_ ⟨o, up c o h1, h2⟩ hi hj hij
    cases hx : Hf.get b with
    | none => exact absurd hx hb
    | some o => rw [up b o hx]; exact fun h => by cases h
  · rw [hn] at hb
    rcases hsub b with e | e
    · rw [e]; exact hh.bound b hb
    · exact e
/-! ### A function that comes to one end, whatever the tape says -/
theorem goes_of_does {call : CallT → List AV → AHeap → FRes} (hc : CallOK P call) (hdr : ∀ need nt, DrawSpec P need nt call) (hall : OKProg P) {f : FuncId} {fn : Func} {c : Code} (hf : P.funcs[f]? = some fn) (hb : fn.body = some c) {args : List AV} (hle : args.length ≤ fn.ntmps) {v : AV} {Hf : AHeap}
    (h : Does P (needFn fn) fn.ntmps none c (initRegs 0 args .leaf) [] .none H (fun e r' d' q' H' => (e = .nrm ∨ e = .ret) ∧ d' = [] ∧ q' = .none ∧ resultsA P (needFn fn) fn r' H' = some v ∧ Hf.n = H'.n ∧ ∀ b, Hf.get b = H'.get b ∨ (Hf.get b = none ∧ H.n ≤ b)))
    {μ : Mu} {w : World} {vs : List Value} (hh : HRel μ H w) (hg : GRel P μ) (hv : VRels μ args vs) : FnGoes P f vs w (Ends μ H w (.ret v Hf)) := by
  obtain ⟨ok1, ok2⟩ := hall f fn c hf hb
  refine .inr ⟨callFunc_enter hf hb ok2 _ _, fun cs => ?_⟩
  have hq : QRel μ .normal cs .none cs := ⟨rfl, fun fr hk => by simp [tryRecover, hk]⟩
  have hlen := hv.length
  have henter : Frame.enter P f ⟨vs⟩ .normal = ({ (default : Frame) with fn := f, kind := .normal } : Frame).atR { tmps := ⟨vs⟩ ++ Array.replicate (fn.ntmps - vs.length) undef, defers := [] } [.code c] := by
    simp [Frame.enter, Frame.atR, hf, hb]
    rfl
  obtain ⟨e, r', d', q', H', ⟨he, hd', hq', hres, hn, hsub⟩, μ', w', a', cs', s1, s2, s3, s4, s5, s6, s7⟩ := h { (default : Frame) with fn := f, kind := .normal } μ w { tmps := ⟨vs⟩ ++ Array.replicate (fn.ntmps - vs.length) undef, defers := [] } [] cs cs rfl (init_rel hv _) (by simp; omega) hh hg rfl hq
  subst hd' hq'
  have hcs : cs' = cs := s7.1
  subst hcs
  rw [← henter] at s1
  have hgd : (evDefers P call (needFn fn) fn r' 100 none [] H').good = true := by simp only [evDefers, hres]; rfl
  have hev : evDefers P call (needFn fn) fn r' 100 none [] H' = .ret v H' := by simp only [evDefers, hres]
  have main : ∀ (fr : Frame), fr.fn = f → fr.tmps = a'.tmps → fr.defers = a'.defers → fr.kind = .normal → PRel μ' none fr.mode → Steps P (lone (Frame.enter P f ⟨vs⟩ .normal) cs' w) (lone fr cs' w') →
      ∃ e w2 fr2, Ends μ H w (.ret v Hf) e w2 ∧ Comes P (lone (Frame.enter P f ⟨vs⟩ .normal) cs' w) (lone fr2 cs' w2) e ∧ fr2.fn = f ∧ fr2.leaving P w2 e := by
    intro fr h1 h2 h3 h4 h5 h6
    subst h1
    obtain ⟨e2, w2, fr2, r1, r2, r3, r4⟩ := evDefers_ok hc hdr hall 100 none [] H' μ' w' fr cs' hgd s4 (hg.mono s5.le) (by rw [h2]; exact s2) hf h4 (by rw [h3]; exact s6) h5
    rw [hev] at r1
    have r1' := Ends.trans hh s4 s5 r1
    refine ⟨e2, w2, fr2, ?_, comes_of_steps (h6.trans r2) (fun e => ends_not_outgrown (r := .ret v H') rfl _ (e ▸ r1')), r3, r4⟩
    obtain ⟨μ2, u, rfl, t1, t2, t3⟩ := r1'
    refine ⟨μ2, u, rfl, t1, t2.dropped hn (fun b => ?_), ?_⟩
    · rcases hsub b with e | ⟨e, _⟩
      · exact .inl e
      · exact .inr e
    · have low : ∀ b, b < H.n → Hf.get b = H'.get b := fun b hb => by
        rcases hsub b with e | ⟨_, e⟩
        · exact e
        · omega
      refine ⟨t3.le, t3.size, by rw [hn]; exact t3.n, fun b hb hl => t3.live b hb (by rw [← low b hb]; exact hl), fun b hb hm => (low b hb).trans (t3.idle b hb hm), t3.old, t3.new, fun b o i hbo hro hi => ?_, t3.os, t3.out, t3.tape, t3.drawn⟩
      obtain ⟨x1, x2⟩ := t3.ro b o i hbo hro hi
      exact ⟨(low b (hh.lt b i hi).1).trans x1, x2⟩
  rcases he with rfl | rfl
  · exact main { ({ (default : Frame) with fn := f, kind := .normal } : Frame).atR a' [] with mode := .returning } rfl rfl rfl rfl rfl (Steps.trans s1 (.one (stepR_end rfl)))
  · obtain ⟨kk, hkk⟩ := s1
    exact main { ({ (default : Frame) with fn := f, kind := .normal } : Frame).atR a' (.code .ret :: kk) with mode := .returning } rfl rfl rfl rfl rfl (Steps.trans hkk (.one (stepR_ret rfl)))
end
end AEv

namespace AEv
open Go

section
variable {P : Program} {fn : Func} {rd : Option Nat} {call : CallT → List AV → AHeap → FRes}

/-- What a piece of a function's code may come to, at registers of which so much is known. -/
def DoesF (P : Program) (fn : Func) (rd : Option Nat) (p : List Nat) (st : SSt) (R : AEx → SSt → Prop) : Prop :=
  ∀ r, Mod r st.Γ → Does P (needFn fn) fn.ntmps rd (sub (bodyOf fn) p) r st.d st.q st.h (fun e r' d' q' h' => ∃ Γ', Mod r' Γ' ∧ R e ⟨Γ', d', q', h'⟩)
theorem DoesF.of_run (hc : CallOK P call) (hdr : ∀ need nt, DrawSpec P need nt call) {p : List Nat} {st st' : SSt} {e : AEx} (hok : okCode fn.ntmps (sub (bodyOf fn) p) = true) (h : RunF P fn rd call p st e st') {R : AEx → SSt → Prop} (hR : R e st') : DoesF P fn rd p st R := fun r hr => by
  obtain ⟨r', h1, h2⟩ := h r hr
  exact Does.of_run hc hdr hok h1 ⟨st'.Γ, h2, hR⟩
theorem DoesF.seq {p : List Nat} {st : SSt} {R1 R2 : AEx → SSt → Prop} (hs : isSeq (sub (bodyOf fn) p) = true) (h1 : DoesF P fn rd (p ++ [0]) st R1) (h2 : ∀ st', R1 .nrm st' → DoesF P fn rd (p ++ [1]) st' R2) (h3 : ∀ e st', e ≠ .nrm → R1 e st' → R2 e st') : DoesF P fn rd p st R2 := fun r hr => by
  rw [isSeq_eq hs]
  have h1' := h1 r hr
  rw [sub_app] at h1'
  refine h1'.seq (fun r' d' q' H' ⟨Γ', m, hR⟩ => ?_) fun e r' d' q' H' he ⟨Γ', m, hR⟩ => ⟨Γ', m, h3 e _ he hR⟩
  have := h2 _ hR r' m
  rw [sub_app] at this
  exact this
theorem DoesF.block {p : List Nat} {id : Nat} {st : SSt} {R1 R2 : AEx → SSt → Prop} (hs : isBlock id (sub (bodyOf fn) p) = true) (h1 : DoesF P fn rd (p ++ [0]) st R1) (h2 : ∀ e st', R1 e st' → R2 (unblock id e) st') : DoesF P fn rd p st R2 := fun r hr => by
  rw [isBlock_eq hs]
  have h1' := h1 r hr
  rw [sub_app] at h1'
  exact h1'.block fun e r' d' q' H' ⟨Γ', m, hR⟩ => ⟨Γ', m, h2 e _ hR⟩
def LoopD (inv : Nat → SSt → Prop) (n : Nat) (R : AEx → SSt → Prop) : AEx → SSt → Prop := fun e st => (e = .nrm ∧ ∃ m, m < n ∧ inv m st) ∨ (e ≠ .nrm ∧ R e st)
theorem DoesF.loop {p : List Nat} (inv : Nat → SSt → Prop) {R : AEx → SSt → Prop} (hs : isLoop (sub (bodyOf fn) p) = true) (hstep : ∀ n st, inv n st → DoesF P fn rd (p ++ [0]) st (LoopD inv n R)) (n0 : Nat) {st : SSt} (h0 : inv n0 st) : DoesF P fn rd p st R := fun r hr => by
  rw [isLoop_eq hs]
  refine Does.loop (fun n r d q H => ∃ Γ, Mod r Γ ∧ inv n ⟨Γ, d, q, H⟩) (fun n r d q H ⟨Γ, m, hi⟩ => ?_) n0 ⟨st.Γ, hr, h0⟩
  have h1 := hstep n ⟨Γ, d, q, H⟩ hi r m
  rw [sub_app] at h1
  refine h1.mono fun e r' d' q' H' ⟨Γ', m', hR⟩ => ?_
  rcases hR with ⟨rfl, k, hk, hi'⟩ | ⟨he, hR⟩
  · exact .inl ⟨rfl, k, hk, Γ', m', hi'⟩
  · exact .inr ⟨he, Γ', m', hR⟩
theorem DoesF.pre {p : List Nat} {st st1 : SSt} {R : AEx → SSt → Prop} (h : DoesF P fn rd p st R) (hs : SubL st.Γ st1.Γ) (hd : st1.d = st.d) (hq : st1.q = st.q) (hh : st1.h = st.h) : DoesF P fn rd p st1 R := fun r hr => by
  have := h r (hr.sub hs)
  rw [hd, hq, hh]
  exact this
/-- The step of a range over a map: 'next', and whether there is one. -/
def stepOf : Code → Option (Nat × Nat × Nat)
  | .region _ ops false => match ops.toList with
    | [o1, o2] => match o1.op, o1.guard, o1.dst, o2.op, o2.guard, o2.dst with
      | .next (.tmp it) false, none, some a, .extract (.tmp b) 0, none, some c => match Nat.beq a b with
        | true => some (it, a, c)
        | false => none
      | _, _, _, _, _, _ => none
    | _ => none
  | _ => none
theorem stepOf_some {c : Code} {it a t : Nat} (h : stepOf c = some (it, a, t)) : ∃ id ops o1 o2, c = .region id ops false ∧ ops.toList = [o1, o2] ∧ o1.op = .next (.tmp it) false ∧ o1.guard = none ∧ o1.dst = some a ∧ o2.op = .extract (.tmp a) 0 ∧ o2.guard = none ∧ o2.dst = some t := by
  unfold stepOf at h
  split at h
  · rename_i id ops
    split at h
    · rename_i o1 o2 hops
      split at h
      · rename_i it' a' b' c' h1 h2 h3 h4 h5 h6
        split at h
        · rename_i hab
          have := Nat.eq_of_beq_eq_true hab
          subst this
          cases h
          exact ⟨id, ops, o1, o2, rfl, hops, h1, h2, h3, h4, h5, h6⟩
        · cases h
      · cases h
    · cases h
  · cases h
theorem DoesF.next (hc : CallOK P call) {p : List Nat} {st : SSt} {R : AEx → SSt → Prop} {it a t : Nat} (hs : stepOf (sub (bodyOf fn) p) = some (it, a, t)) (hok : okCode fn.ntmps (sub (bodyOf fn) p) = true) (hn : Nat.testBit (needFn fn) it = true) (hna : Nat.testBit (needFn fn) a = false) (hnt : Nat.testBit (needFn fn) t = true)
    {ri m since last clock : Nat} {seen : List Nat} {es : List AEnt} (hr : lk it st.Γ = some (.ptr ri 0)) (hit : st.h.get ri = some (.mapIter (some m) since seen last)) (hm : st.h.get m = some (.map es clock)) (hold : ∀ e ∈ es, e.born < since) (hsl : since ≤ last)
    (hend : (∀ e ∈ es, e.born ∈ seen) → R .nrm ⟨put t (.bool false) st.Γ, st.d, st.q, st.h⟩)
    (hone : ∀ e ∈ es, e.born ∉ seen → R .nrm ⟨put t (.bool true) st.Γ, st.d, st.q, st.h.set ri (some (.mapIter (some m) since (seen ++ [e.born]) clock))⟩) : DoesF P fn rd p st R := fun r hmod => by
  obtain ⟨id, ops, o1, o2, hcd, hops, h1, h2, h3, h4, h5, h6⟩ := stepOf_some hs
  rw [hcd] at hok ⊢
  have hra : getAcc 0 [] r (accOf P (needFn fn) [] (.tmp it)) = .ptr ri 0 := by
    simp only [accOf, findLoc, hn, getAcc]
    exact hmod it _ hr
  -- what the second operation makes of the first one's value
  have fin : ∀ (b : Bool) (vs : List AV) (H : AHeap), ∃ r', toC (needFn fn) r (planL P (needFn fn) ops [o2] (nextLoc o1 0 []) 1) (evSteps P (needFn fn) rd.isSome call r (planS P (needFn fn) ops [o2] (nextLoc o1 0 []) 1) [.tup (.bool b :: vs)] st.d st.q H) = .ok .nrm r' st.d st.q H ∧ Mod r' (put t (.bool b) st.Γ) := by
    intro b vs H
    have hal : aliasOf o2 = none := by
      unfold aliasOf
      rw [h4, h5, h6]
    have hnl : nextLoc o1 0 [] = [(a, .env 0)] := by
      unfold nextLoc; rw [h3]
    have hga : guardAcc P (needFn fn) ops [(a, .env 0)] o2 = none := by unfold guardAcc; rw [h5]
    have hev : evOp P o2 (fun x => getAcc 1 [.tup (.bool b :: vs)] r (accOf P (needFn fn) [(a, .env 0)] x)) H = .val (.bool b) H := by
      have hx : getAcc 1 [.tup (.bool b :: vs)] r (accOf P (needFn fn) [(a, .env 0)] (.tmp a)) = .tup (.bool b :: vs) := by
        simp [accOf, findLoc, getAcc, nth]
      simp only [evOp, h4, hx]
      rfl
    rw [hnl]
    have hpl : planL P (needFn fn) ops [o2] [(a, .env 0)] 1 = nextLoc o2 1 [(a, .env 0)] := by
      unfold planL; rw [hal]; rfl
    have hps : planS P (needFn fn) ops [o2] [(a, .env 0)] 1 = [⟨none, o2, [(a, .env 0)], 1⟩] := by
      unfold planS; rw [hal, hga]; rfl
    have hnl2 : nextLoc o2 1 [(a, .env 0)] = [(t, .env 1), (a, .env 0)] := by unfold nextLoc; rw [h6]
    rw [hpl, hps, hnl2]
    refine ⟨setOuts (needFn fn) 2 [.bool b, .tup (.bool b :: vs)] r [(t, .env 1), (a, .env 0)] r, ?_, ?_⟩
    · have e1 : evSteps P (needFn fn) rd.isSome call r [⟨none, o2, [(a, .env 0)], 1⟩] [.tup (.bool b :: vs)] st.d st.q H = .ok [.bool b, .tup (.bool b :: vs)] st.d st.q H := by
        simp only [evSteps, evOne, wantedA, hev]
      rw [e1]
      rfl
    · have hm2 := outs_mod (need := needFn fn) (m := 2) (env := [.bool b, .tup (.bool b :: vs)]) hmod [(t, .env 1), (a, .env 0)] r st.Γ hmod
      have he : outsS (needFn fn) 2 [.bool b, .tup (.bool b :: vs)] st.Γ [(t, .env 1), (a, .env 0)] st.Γ = put t (.bool b) st.Γ := by
        simp only [outsS, hnt, hna]
        rfl
      rw [he] at hm2
      exact hm2
  refine Does.next hc hops h1 h2 hok hra hit hm hold hsl (fun hall => ?_) fun e he hns => ?_
  · obtain ⟨r', k1, k2⟩ := fin false [] st.h
    exact ⟨_, _, _, _, _, k1, _, k2, hend hall⟩
  · obtain ⟨r', k1, k2⟩ := fin true [e.key, e.val] _
    exact ⟨_, _, _, _, _, k1, _, k2, hone e he hns⟩
end
end AEv
