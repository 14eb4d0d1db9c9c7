/-
  PROVED HERE: contracts of functions (Db). No condition beside each statement's own.
-/
import Derived.Test.YtlelojncabdnoaaDoorSxa
import Derived.Test.YtlelojncabdnoaaDoorSxb
import Derived.Test.YtlelojncabdnoaaDoorDa
import Derived.Test.YtlelojncabdnoaaDoorProg
set_option linter.unusedVariables false
set_option linter.unusedSimpArgs false
namespace Go.Proofs.Vf
open Go AEv Go.Proofs
set_option maxRecDepth 100000
set_option maxHeartbeats 1000000

theorem va_0 (call : CallT → List AV → AHeap → FRes) (l cb m k : Nat) (h g : AHeap)
    (H1 : load1 h cb 0 = some (.map m))
    (H2 : rangeA h (AV.map m) = some (AV.ptr k 0, g)) :
    RunF Tryd.prog Tryd.f42 none call [0] (SSt.mk [(0, .yld l), (1, .ptr cb 0)] [] .none h) (.nrm)
      (SSt.mk [(0, .yld l), (6, .ptr k 0)] [] .none g) :=
  sxF_run [0, 6] (hs := [.v (.map m), .vh (.ptr k 0) g]) (by kernel_rfl) <| .cons H1 <| .cons H2 <| .nil
theorem va_x (call : CallT → List AV → AHeap → FRes) (h : AHeap) :
    RunF Tryd.prog Tryd.f42 none call [1, 0, 0, 1] (SSt.mk [(8, .bool false)] [] .none h) (.exit 0)
      (SSt.mk [] [] .none h) :=
  sxF_run [] (hs := [.b false]) (by kernel_rfl) <| .cons (by kernel_rfl : false = false) <| .nil
theorem va_b (call : CallT → List AV → AHeap → FRes) (l it n : Nat) (key p x : List UInt8) (h g g2 : AHeap)
    (H1 : entryA h (AV.ptr it 0) = some (AV.tup [AV.str key, AV.agg [AV.str p, AV.str x, AV.int IntKind.u64 (Int.ofNat n)]]))
    (H2 : AEv.storeCells (AHeap.push h (.cells [.str [], .str [], .int .u64 (.ofNat 0)] 40 .own 0 0)) (AHeap.n h) 0 [.str p, .str x, .int .u64 (.ofNat n)] = some g)
    (H3 : AEv.loadCells g (AHeap.n h) 0 3 = some [.str p, .str x, .int .u64 (.ofNat n)])
    (H4 : call (.yld l) [.agg [.str p, .str x, .int .u64 (.ofNat n)]] g = FRes.ret (.bool true) g2) :
    RunF Tryd.prog Tryd.f42 none call [1, 0, 0, 1] (SSt.mk [(0, .yld l), (6, .ptr it 0), (8, .bool true)] [] .none h) (.nrm)
      (SSt.mk [(0, .yld l), (6, .ptr it 0)] [] .none g2) :=
  sxF_run [0, 6] (hs := [.b true, .v (.tup [.str key, .agg [.str p, .str x, .int .u64 (.ofNat n)]]), .vh (.tup []) g, .v (.agg [.str p, .str x, .int .u64 (.ofNat n)]), .c (.bool true) g2, .b false]) (by kernel_rfl) <| .cons (by kernel_rfl : true = true) <| .cons H1 <| .cons (⟨by kernel_rfl, H2, rfl⟩ : some 3 = some 3 ∧ AEv.storeCells (AHeap.push h (AObj.cells [AV.str [], AV.str [], AV.int IntKind.u64 (Int.ofNat 0)] 40 BK.own 0 0)) (AHeap.n h) 0 [AV.str p, AV.str x, AV.int IntKind.u64 (Int.ofNat n)] = some g ∧ AV.tup [] = AV.tup []) <| .cons H3 <| .cons H4 <| .cons (by kernel_rfl : (!true) = false) <| .nil
theorem aq_0 (call : CallT → List AV → AHeap → FRes) (cb : Nat) (h : AHeap) :
    RunF Tryd.prog Tryd.f53 none call [0] (SSt.mk [(0, .nilS), (1, .fn 42 [] [.ptr cb 0])] [] .none h) (.nrm)
      (SSt.mk [(1, .fn 42 [] [.ptr cb 0]), (2, .ptr (AHeap.n h) 0), (4, .nilS)] [] .none (AHeap.push h (.cells [.nilS] 32 .own 0 0))) :=
  sxF_run [1, 2, 4] (hs := []) (by kernel_rfl) <| .nil
theorem aq_1 (call : CallT → List AV → AHeap → FRes) (s cb : Nat) (h : AHeap) :
    RunF Tryd.prog Tryd.f53 none call [1, 0, 0] (SSt.mk [(1, .fn 42 [] [.ptr cb 0]), (2, .ptr s 0), (4, .nilS)] [] .none h) (.nrm)
      (SSt.mk [(2, .ptr s 0), (4, .nilS), (6, .fn 42 [] [.ptr cb 0])] [] .none h) :=
  sxF_run [2, 4, 6] (hs := []) (by kernel_rfl) <| .nil
theorem aq_a (call : CallT → List AV → AHeap → FRes) (l s n : Nat) (p x : List UInt8) (h g : AHeap)
    (H1 : AEv.storeCells (AHeap.push h (.cells [.str [], .str [], .int .u64 (.ofNat 0)] 40 .own 0 0)) (AHeap.n h) 0 [.str p, .str x, .int .u64 (.ofNat n)] = some g) :
    RunF Tryd.prog Tryd.f53 (some l) call [1, 0, 1, 0, 0] (SSt.mk [(2, .ptr s 0), (7, .agg [.str p, .str x, .int .u64 (.ofNat n)])] [] .none h) (.nrm)
      (SSt.mk [(2, .ptr s 0), (5, .ptr (AHeap.n h) 0)] [] .none g) :=
  sxF_run [2, 5] (hs := [.vh (.tup []) g]) (by kernel_rfl) <| .cons (⟨by kernel_rfl, H1, rfl⟩ : some 3 = some 3 ∧ AEv.storeCells (AHeap.push h (AObj.cells [AV.str [], AV.str [], AV.int IntKind.u64 (Int.ofNat 0)] 40 BK.own 0 0)) (AHeap.n h) 0 [AV.str p, AV.str x, AV.int IntKind.u64 (Int.ofNat n)] = some g ∧ AV.tup [] = AV.tup []) <| .nil
theorem aq_b (call : CallT → List AV → AHeap → FRes) (l s f n q k : Nat) (p x : List UInt8) (v : AV) (h g g2 : AHeap)
    (H1 : load1 h s 0 = some v)
    (H2 : AEv.loadCells h f 0 3 = some [.str p, .str x, .int .u64 (.ofNat n)])
    (H3 : appendA Tryd.prog (AHeap.push h (AObj.cells [AV.str p, AV.str x, AV.int IntKind.u64 (Int.ofNat n)] 40 BK.own 0 0)) 32 (some 32) v (AV.slice (AHeap.n h) 0 1 (Cap.exact 1)) = some (AV.slice q 0 k (Cap.opn 3), g))
    (H4 : AEv.storeCells g s 0 [.slice q 0 k (.opn 3)] = some g2) :
    RunF Tryd.prog Tryd.f53 (some l) call [1, 0, 1, 0, 1] (SSt.mk [(2, .ptr s 0), (5, .ptr f 0)] [] .none h) (.nrm)
      (SSt.mk [(2, .ptr s 0)] [] .none g2) :=
  sxF_run [2] (hs := [.v v, .v (.agg [.str p, .str x, .int .u64 (.ofNat n)]), .vh (.slice q 0 k (.opn 3)) g, .vh (.tup []) g2]) (by kernel_rfl) <| .cons H1 <| .cons H2 <| .cons H3 <| .cons (⟨by kernel_rfl, H4, rfl⟩ : some 1 = some 1 ∧ AEv.storeCells g s 0 [AV.slice q 0 k (Cap.opn 3)] = some g2 ∧ AV.tup [] = AV.tup []) <| .nil
theorem aq_f (call : CallT → List AV → AHeap → FRes) (s b : Nat) (v : AV) (h : AHeap)
    (H1 : load1 h s 0 = some v) :
    RunF Tryd.prog Tryd.f53 none call [1, 1] (SSt.mk [(2, .ptr s 0)] [.collected b] .none h) (.ret)
      (SSt.mk [(4, v)] [.collected b] .none h) :=
  sxF_run [4] (hs := [.v v]) (by kernel_rfl) <| .cons H1 <| .nil
theorem co_0 (call : CallT → List AV → AHeap → FRes) (cb : Nat) (h : AHeap) :
    RunF Tryd.prog Tryd.f40 none call [0] (SSt.mk [(0, .fn 42 [] [.ptr cb 0])] [] .none h) (.nrm)
      (SSt.mk [(0, .fn 42 [] [.ptr cb 0])] [] .none h) :=
  sxF_run [0] (hs := []) (by kernel_rfl) <| .nil
theorem sf_0 (call : CallT → List AV → AHeap → FRes) (cb : Nat) (h : AHeap) :
    RunF Tryd.prog Tryd.f22 none call [0] (SSt.mk [(0, .fn 42 [] [.ptr cb 0]), (1, .fn 24 [] [])] [] .none h) (.nrm)
      (SSt.mk [(0, .fn 42 [] [.ptr cb 0]), (1, .fn 24 [] [])] [] .none h) :=
  sxF_run [0, 1] (hs := []) (by kernel_rfl) <| .nil
theorem sf_1 (call : CallT → List AV → AHeap → FRes) (v : AV) (h g : AHeap)
    (H1 : call (.fn 41) [v, .fn 24 [] []] h = FRes.ret (.tup []) g) :
    RunF Tryd.prog Tryd.f22 none call [1, 1] (SSt.mk [(1, .fn 24 [] []), (5, v)] [] .none h) (.ret)
      (SSt.mk [(4, v)] [] .none g) :=
  sxF_run [4] (hs := [.c (.tup []) g]) (by kernel_rfl) <| .cons H1 <| .nil
theorem co_e (call : CallT → List AV → AHeap → FRes) (v : AV) (h : AHeap) :
    RunF Tryd.prog Tryd.f40 none call [1, 1] (SSt.mk [(2, v)] [] .none h) (.ret)
      (SSt.mk [(2, v)] [] .none h) :=
  sxF_run [2] (hs := []) (by kernel_rfl) <| .nil

/-! ### Files, as they lie -/
structure Fl where
  p : List UInt8
  x : List UInt8
  n : Nat
abbrev encF (d : Fl) : List AV := [.str d.p, .str d.x, .int .u64 (Int.ofNat d.n)]
theorem rowF : RowTy Tryd.prog encF 3 40 32 where
  hu := by kernel_rfl
  hsrc := by kernel_rfl
  info := by
    obtain ⟨i, hi⟩ : ∃ i, Tryd.prog.info? 40 = some i := Option.isSome_iff_exists.1 (by kernel_rfl)
    refine ⟨i, hi, ?_, ?_⟩
    · have : (Tryd.prog.info? 40).map (·.size) = some 3 := by kernel_rfl
      rw [hi] at this; exact Option.some.inj this
    · have : (Tryd.prog.info? 40).map (fun i => Nat.ble i.bytes 1000) = some true := by kernel_rfl
      rw [hi] at this
      exact Nat.le_of_ble_eq_true (Option.some.inj this)
  zero := by
    obtain ⟨z, hz⟩ : ∃ z, zeroT Tryd.prog 40 = some z := Option.isSome_iff_exists.1 (by kernel_rfl)
    refine ⟨z, hz, ?_⟩
    have : (zeroT Tryd.prog 40).map (·.cells.length) = some 3 := by kernel_rfl
    rw [hz] at this; exact Option.some.inj this
  size := by kernel_rfl
  len := fun _ => rfl
  cell := fun _ => rfl
  pos := by decide

/-! ### A round of a loop over a function, whose assignment lays a block -/
theorem round1h {P : Program} {call : CallT → List AV → AHeap → FRes} {l need t df : Nat} {Γ Γ1 Γ2 : Env} {cA cB : Code} {v : AV} {h h1 h2 : AHeap} {q q2 : Rc} {e : AEx} {r : Tr}
    (hg : h.get l = some (.loop .ready none need r [t] cA cB df)) (hm : Mod r Γ)
    (ha : RunP P need (some l) call cA ⟨put t v Γ, [], .none, h⟩ .nrm ⟨Γ1, [], q, h1⟩) (hg1 : h1.get l = some (.loop .ready none need r [t] cA cB df))
    (hb : RunP P need (some l) call cB ⟨Γ1, [], .none, h1.set l (some (.loop .busy none need r [t] cA cB df))⟩ e ⟨Γ2, [], q2, h2⟩)
    (hk : h2.get l = some (.loop .busy none need r [t] cA cB df)) :
    evRound P call l [v] h = roundR l e need r [t] cA cB df h2 := by
  obtain ⟨r1, e1, m1⟩ := ha _ (hm.put t v)
  obtain ⟨r2, e2, m2⟩ := hb _ m1
  simp only at e1 e2
  simp only [evRound, hg, zipRegs, e1, roundGo, hg1, e2]
  simp only [roundEnd, hk]
  cases e <;> rfl

/-! ### All values of a map, in whatever order -/
structure Dt where
  k : List UInt8
  f : Fl
  born : Nat
def dtOf (e : AEnt) : Option Dt := match e.key, e.val with
  | .str k, .agg [.str p, .str x, .int .u64 (.ofNat n)] => some ⟨k, ⟨p, x, n⟩, e.born⟩
  | _, _ => none
theorem dtOf_some {e : AEnt} {d : Dt} (h : dtOf e = some d) : e.key = .str d.k ∧ e.val = .agg (encF d.f) ∧ e.born = d.born := by
  unfold dtOf at h
  split at h
  · rename_i k p x n h1 h2
    cases h
    exact ⟨h1, h2, rfl⟩
  · cases h
inductive Dts : List AEnt → List Dt → Prop where
  | nil : Dts [] []
  | cons {e es d l} : dtOf e = some d → Dts es l → Dts (e :: es) (d :: l)
theorem Dts.ent {es : List AEnt} {l : List Dt} (hl : Dts es l) : ∀ e ∈ es, ∃ d ∈ l, dtOf e = some d := by
  induction hl with
  | nil => intro e he; cases he
  | cons h1 h2 ih =>
    intro e he
    rcases List.mem_cons.1 he with rfl | he
    · exact ⟨_, by simp, h1⟩
    · obtain ⟨d, h3, h4⟩ := ih e he; exact ⟨d, by simp [h3], h4⟩
theorem Dts.dat {es : List AEnt} {l : List Dt} (hl : Dts es l) : ∀ d ∈ l, ∃ e ∈ es, dtOf e = some d := by
  induction hl with
  | nil => intro e he; cases he
  | cons h1 h2 ih =>
    intro e he
    rcases List.mem_cons.1 he with rfl | he
    · exact ⟨_, by simp, h1⟩
    · obtain ⟨d, h3, h4⟩ := ih e he; exact ⟨d, by simp [h3], h4⟩
/-- Those of a list that were seen. -/
def seenL (l : List Dt) (S : List Nat) : List Fl := (l.filter fun d => S.contains d.born).map (·.f)
theorem seenL_all {l : List Dt} {S : List Nat} (h : ∀ d ∈ l, d.born ∈ S) : seenL l S = l.map (·.f) := by
  unfold seenL
  rw [List.filter_eq_self.2 (fun d hd => by simpa using h d hd)]
theorem seenL_step {S : List Nat} {d : Dt} (hs : d.born ∉ S) : ∀ {l : List Dt}, (l.map (·.born)).Nodup → d ∈ l → (seenL l (S ++ [d.born])).Perm (seenL l S ++ [d.f])
  | [], _, h => by cases h
  | x :: l, hn, hm => by
    have hn' : x.born ∉ l.map (·.born) ∧ (l.map (·.born)).Nodup := List.nodup_cons.1 hn
    unfold seenL
    rw [List.filter_cons, List.filter_cons]
    by_cases hx : x.born = d.born
    · have hxd : x = d := by
        rcases List.mem_cons.1 hm with h | h
        · exact h.symm
        · exact absurd (List.mem_map.2 ⟨d, h, hx.symm⟩) hn'.1
      subst hxd
      have e1 : (l.filter fun y => (S ++ [x.born]).contains y.born) = l.filter fun y => S.contains y.born := by
        apply List.filter_congr
        intro y hy
        have : ¬ y.born = x.born := fun e => hn'.1 (List.mem_map.2 ⟨y, hy, e⟩)
        simp [this]
      have e2 : (S ++ [x.born]).contains x.born = true := by simp
      have e3 : S.contains x.born = false := by simpa using hs
      rw [e1, e2, e3]
      simp only [if_true, Bool.false_eq_true, if_false, List.map_cons]
      exact (List.perm_append_singleton _ _).symm
    · have hm' : d ∈ l := by
        rcases List.mem_cons.1 hm with h | h
        · exact absurd (by rw [h]) hx
        · exact h
      have ih := seenL_step hs hn'.2 hm'
      have e2 : (S ++ [d.born]).contains x.born = S.contains x.born := by simp [hx]
      rw [e2]
      cases hc : S.contains x.born with
      | true => simp only [if_true, List.map_cons, List.cons_append]; exact List.Perm.cons _ ih
      | false => simp only [Bool.false_eq_true, if_false]; exact ih
def leftV (l : List Dt) (S : List Nat) : Nat := (l.filter fun d => !S.contains d.born).length
theorem leftV_step {S : List Nat} {d : Dt} (hs : d.born ∉ S) : ∀ {l : List Dt}, (l.map (·.born)).Nodup → d ∈ l → leftV l (S ++ [d.born]) < leftV l S
  | [], _, h => by cases h
  | x :: l, hn, hm => by
    have hn' : x.born ∉ l.map (·.born) ∧ (l.map (·.born)).Nodup := List.nodup_cons.1 hn
    have mono : ∀ l : List Dt, (l.filter fun y => !(S ++ [d.born]).contains y.born).length ≤ (l.filter fun y => !S.contains y.born).length := fun l => by
      induction l with
      | nil => exact Nat.le_refl _
      | cons y l ih =>
        rw [List.filter_cons, List.filter_cons]
        by_cases h1 : y.born ∈ S
        · have a1 : (!(S ++ [d.born]).contains y.born) = false := by simp [h1]
          have a2 : (!S.contains y.born) = false := by simp [h1]
          rw [a1, a2]; exact ih
        · have a2 : (!S.contains y.born) = true := by simp [h1]
          rw [a2]
          split
          · simp only [if_true, List.length_cons]; omega
          · simp only [if_true, List.length_cons]; omega
    unfold leftV
    rw [List.filter_cons, List.filter_cons]
    by_cases hx : x.born = d.born
    · have a1 : (!(S ++ [d.born]).contains x.born) = false := by simp [hx]
      have a2 : (!S.contains x.born) = true := by rw [hx]; simpa using hs
      rw [a1, a2]
      have := mono l
      simp only [Bool.false_eq_true, if_false, if_true, List.length_cons]; omega
    · have hm' : d ∈ l := by
        rcases List.mem_cons.1 hm with h | h
        · exact absurd (by rw [h]) hx
        · exact h
      have ih := leftV_step hs hn'.2 hm'
      unfold leftV at ih
      have a1 : (!(S ++ [d.born]).contains x.born) = (!S.contains x.born) := by simp [hx]
      rw [a1]
      cases hc : (!S.contains x.born) with
      | true => simp only [if_true, List.length_cons]; omega
      | false => simp only [Bool.false_eq_true, if_false]; exact ih
noncomputable def aqAs : Code := sub (bodyOf Tryd.f53) [1, 0, 1, 0, 0]
noncomputable def aqBd : Code := sub (bodyOf Tryd.f53) [1, 0, 1, 0, 1]
noncomputable abbrev aqLoop (need : Nat) (r : Tr) (df : Nat) : AObj := .loop .ready none need r [7] aqAs aqBd df
/-- Memory while a map's values are gathered: what lay below B, the cell, the loop's own blocks, the iterator. -/
structure VI (B : Nat) (H0 : AHeap) (m clock need : Nat) (r : Tr) (S : List Nat) (ds : List Fl) (g : AHeap) : Prop where
  low : ∀ b, b < B → g.get b = H0.get b
  n : B + 4 ≤ g.n
  df : g.get (B + 1) = some (.defrd (some []))
  lp : g.get (B + 2) = some (aqLoop need r (B + 1))
  it : g.get (B + 3) = some (.mapIter (some m) clock S clock)
  cell : ∃ v, g.get B = some (.cells [v] 32 .own 0 0) ∧ OutG encF 3 40 (B + 4) g v ds
/-- One value comes: it is appended. -/
theorem yield_c (I : Nat → List AV → AHeap → Option (AV × AHeap)) (n : Nat) {B m clock need : Nat} {H0 g : AHeap} {r : Tr} {S : List Nat} {ds : List Fl} (hn : need = needFn Tryd.f53) (hr : Mod r [(2, .ptr B 0)]) (w : VI B H0 m clock need r S ds g) (d : Fl) (hl : ds.length ≤ 100000) :
    ∃ g', callN Tryd.prog I (n + 1) (.yld (B + 2)) [.agg (encF d)] g = .ret (.bool true) g' ∧ VI B H0 m clock need r S (ds ++ [d]) g' := by
  subst hn
  obtain ⟨v, hc, ho⟩ := w.cell
  have hgn := w.n
  obtain ⟨h1, hh1⟩ : ∃ h1, h1 = g.push (.cells (encF d) 40 .own 0 0) := ⟨_, rfl⟩
  have n1 : h1.n = g.n + 1 := by rw [hh1]; rfl
  have old1 : ∀ b, b < g.n → h1.get b = g.get b := fun b hb => by rw [hh1]; exact gold hb rfl
  obtain ⟨h2, hh2⟩ : ∃ h2, h2 = (g.push (.cells [.str [], .str [], .int .u64 (Int.ofNat 0)] 40 .own 0 0)).set g.n (some (.cells (encF d) 40 .own 0 0)) := ⟨_, rfl⟩
  have n2 : h2.n = g.n + 1 := by rw [hh2]; rfl
  have old2 : ∀ b, b < g.n → h2.get b = g.get b := fun b hb => by rw [hh2]; exact gother (by omega) (gold hb rfl)
  have top2 : h2.get g.n = some (.cells (encF d) 40 .own 0 0) := by rw [hh2]; exact gsame rfl
  have ra := aq_a (callN Tryd.prog I n) (B + 2) B d.n d.p d.x g h2 (by rw [hh2]; exact stc (gtop rfl) rfl rfl)
  obtain ⟨hb, hhb⟩ : ∃ hb, hb = h2.set (B + 2) (some (.loop .busy none (needFn Tryd.f53) r [7] aqAs aqBd (B + 1))) := ⟨_, rfl⟩
  have nb : hb.n = g.n + 1 := by rw [hhb]; exact n2
  have oldb : ∀ b, b < g.n → ¬ b = B + 2 → hb.get b = g.get b := fun b h1 h2 => by rw [hhb]; exact gother h2 (old2 b h1)
  have topb : hb.get g.n = some (.cells (encF d) 40 .own 0 0) := by rw [hhb]; exact gother (by omega) top2
  have lpb : hb.get (B + 2) = some (.loop .busy none (needFn Tryd.f53) r [7] aqAs aqBd (B + 1)) := by rw [hhb]; exact gsame rfl
  have hcb : hb.get B = some (.cells [v] 32 .own 0 0) := (oldb B (by omega) (by omega)).trans hc
  have hob : OutG encF 3 40 (B + 4) hb v ds := by
    rcases ho with ho | ⟨p, e1, e2, e3, e4, e5⟩
    · exact .inl ho
    · exact .inr ⟨p, e1, e2, (oldb p e5 (by omega)).trans e3, e4, by omega⟩
  obtain ⟨hp, hhp⟩ : ∃ hp, hp = hb.push (.cells (encF d) 40 .own 0 0) := ⟨_, rfl⟩
  have np : hp.n = g.n + 2 := by rw [hhp]; show hb.n + 1 = _; omega
  have hop : OutG encF 3 40 (B + 4) hp v ds := hob.mono (Ext.pushR (Nat.le_refl _) (Ext.refl _ _) |> fun e => by rw [hhp]; exact e) (Nat.le_refl _)
  obtain ⟨v2, g3, a1, a2, a3, a4, a5⟩ := appG rowF (es := [d]) hop (by omega) (by rw [hhp]; exact oneG rowF hb 40 d) (by simp; omega)
  have hne : ∀ c, c < B + 4 → ∀ n cp, v ≠ .slice c 0 n cp := fun c hcl n cp e => by
    rcases ho with ⟨e1, _⟩ | ⟨p, e1, _, _, e4, _⟩
    · rw [e] at e1; cases e1
    · rw [e] at e1; cases e1; omega
  have old3 : ∀ b, b < B + 4 → ¬ b = B + 2 → g3.get b = g.get b := fun b h1 h2 => by
    rw [a5 b (by omega) (hne b h1), hhp]
    exact gold (by omega) (oldb b (by omega) h2)
  have lp3 : g3.get (B + 2) = some (.loop .busy none (needFn Tryd.f53) r [7] aqAs aqBd (B + 1)) := by
    rw [a5 (B + 2) (by omega) (hne _ (by omega)), hhp]
    exact gold (by omega) lpb
  have hc3 : g3.get B = some (.cells [v] 32 .own 0 0) := (old3 B (by omega) (by omega)).trans hc
  obtain ⟨q2, rfl, b2, b3, b4, b5⟩ : ∃ p, v2 = .slice p 0 (ds ++ [d]).length (.opn 3) ∧ 0 < (ds ++ [d]).length ∧ g3.get p = some (.cells (rowL encF (ds ++ [d])) 40 .opn 0 0) ∧ B + 4 ≤ p ∧ p < g3.n := by
    rcases a2 with ⟨_, e⟩ | h
    · simp at e
    · exact h
  obtain ⟨g4, hg4⟩ : ∃ g4, g4 = g3.set B (some (.cells [.slice q2 0 (ds ++ [d]).length (.opn 3)] 32 .own 0 0)) := ⟨_, rfl⟩
  have rb := aq_b (callN Tryd.prog I n) (B + 2) B g.n d.n q2 (ds ++ [d]).length d.p d.x v hb g3 g4 (ld1 hcb rfl) (ldc topb rfl) (by rw [← hhp]; exact a1) (by rw [hg4]; exact stc hc3 rfl rfl)
  have hk : g4.get (B + 2) = some (.loop .busy none (needFn Tryd.f53) r [7] aqAs aqBd (B + 1)) := by rw [hg4]; exact gother (by omega) lp3
  have hev := round1h (P := Tryd.prog) (call := callN Tryd.prog I n) (t := 7) (Γ := [(2, .ptr B 0)]) (cA := aqAs) (cB := aqBd) (v := .agg (encF d)) w.lp hr
    (RunP.pre (st1 := ⟨put 7 (.agg (encF d)) [(2, .ptr B 0)], [], .none, g⟩) ra ⟨rfl, rfl, trivial⟩ rfl rfl rfl) ((old2 (B + 2) (by omega)).trans w.lp) (by rw [← hhb]; exact rb) hk
  refine ⟨_, hev, ?_, ?_, ?_, ?_, ?_, ?_⟩
  · intro b hb
    show (g4.set (B + 2) _).get b = _
    rw [hg4]
    exact gother (by omega) (gother (by omega) ((old3 b (by omega) (by omega)).trans (w.low b hb)))
  · show B + 4 ≤ g4.n
    rw [hg4]; show B + 4 ≤ g3.n; omega
  · show (g4.set (B + 2) _).get (B + 1) = _
    rw [hg4]
    exact gother (by omega) (gother (by omega) ((old3 _ (by omega) (by omega)).trans w.df))
  · exact gsame rfl
  · show (g4.set (B + 2) _).get (B + 3) = _
    rw [hg4]
    exact gother (by omega) (gother (by omega) ((old3 _ (by omega) (by omega)).trans w.it))
  · refine ⟨.slice q2 0 (ds ++ [d]).length (.opn 3), ?_, .inr ⟨q2, rfl, b2, ?_, b4, ?_⟩⟩
    · show (g4.set (B + 2) _).get B = _
      rw [hg4]
      exact gother (by omega) (gsame rfl)
    · show (g4.set (B + 2) _).get q2 = _
      rw [hg4]
      exact gother (by omega) (gother (by omega) b3)
    · show q2 < g4.n
      rw [hg4]; exact b5
end Go.Proofs.Vf

namespace Go.Proofs.Vf
open Go AEv Go.Proofs
set_option maxRecDepth 100000
set_option maxHeartbeats 1000000

theorem VI.top {B m clock need : Nat} {H0 g g' : AHeap} {r : Tr} {S : List Nat} {ds : List Fl} (w : VI B H0 m clock need r S ds g) (hn : g.n ≤ g'.n) (hg : ∀ b, b < g.n → g'.get b = g.get b) : VI B H0 m clock need r S ds g' := by
  have := w.n
  obtain ⟨v, h1, h2⟩ := w.cell
  refine ⟨fun b hb => (hg b (by omega)).trans (w.low b hb), by omega, (hg _ (by omega)).trans w.df, (hg _ (by omega)).trans w.lp, (hg _ (by omega)).trans w.it, v, (hg _ (by omega)).trans h1, ?_⟩
  rcases h2 with h2 | ⟨p, e1, e2, e3, e4, e5⟩
  · exact .inl h2
  · exact .inr ⟨p, e1, e2, (hg p e5).trans e3, e4, by omega⟩
theorem VI.step {B m clock need : Nat} {H0 g : AHeap} {r : Tr} {S : List Nat} {ds : List Fl} (w : VI B H0 m clock need r S ds g) (b : Nat) : VI B H0 m clock need r (S ++ [b]) ds (g.set (B + 3) (some (.mapIter (some m) clock (S ++ [b]) clock))) := by
  have := w.n
  obtain ⟨v, h1, h2⟩ := w.cell
  refine ⟨fun b hb => gother (by omega) (w.low b hb), w.n, gother (by omega) w.df, gother (by omega) w.lp, gsame rfl, v, gother (by omega) h1, ?_⟩
  rcases h2 with h2 | ⟨p, e1, e2, e3, e4, e5⟩
  · exact .inl h2
  · exact .inr ⟨p, e1, e2, gother (by omega) e3, e4, e5⟩
/-- A map of files, and what lies there. -/
structure MapAt (H : AHeap) (cb m clock : Nat) (es : List AEnt) (l : List Dt) : Prop where
  hc : load1 H cb 0 = some (.map m)
  hm : H.get m = some (.map es clock)
  hL : Dts es l
  nd : (l.map (·.born)).Nodup
  lt : ∀ d ∈ l, d.born < clock
  len : l.length ≤ 100000
  cn : cb < H.n
  mn : m < H.n
theorem nodup_eq {l : List Dt} (hn : (l.map (·.born)).Nodup) : ∀ a ∈ l, ∀ b ∈ l, a.born = b.born → a = b := by
  induction l with
  | nil => intro a ha; cases ha
  | cons x l ih =>
    have hn' : x.born ∉ l.map (·.born) ∧ (l.map (·.born)).Nodup := List.nodup_cons.1 hn
    intro a ha b hb e
    rcases List.mem_cons.1 ha with rfl | ha' <;> rcases List.mem_cons.1 hb with rfl | hb'
    · rfl
    · exact absurd (List.mem_map.2 ⟨b, hb', e.symm⟩) hn'.1
    · exact absurd (List.mem_map.2 ⟨a, ha', e⟩) hn'.1
    · exact ih hn'.2 a ha' b hb' e
theorem findBorn_mem {b : Nat} : ∀ {es : List AEnt} {e : AEnt}, e ∈ es → (∀ x ∈ es, x.born = e.born → x = e) → e.born = b → findBorn b es = some e
  | [], e, he, _, _ => by cases he
  | x :: es, e, he, hu, hb => by
    unfold findBorn
    by_cases hx : x.born = b
    · have : Nat.beq x.born b = true := by rw [hx]; exact Nat.beq_refl _
      rw [this]
      rw [hu x (by simp) (hx.trans hb.symm)]
    · have : Nat.beq x.born b = false := by
        cases hc : Nat.beq x.born b with
        | false => rfl
        | true => exact absurd (Nat.eq_of_beq_eq_true hc) hx
      rw [this]
      rcases List.mem_cons.1 he with rfl | he
      · exact absurd hb hx
      · exact findBorn_mem he (fun x hx => hu x (by simp [hx])) hb
theorem MapAt.uniq {H : AHeap} {cb m clock : Nat} {es : List AEnt} {l : List Dt} (w : MapAt H cb m clock es l) : ∀ x ∈ es, ∀ e ∈ es, x.born = e.born → x = e := by
  intro x hx e he hb
  obtain ⟨dx, dx1, dx2⟩ := w.hL.ent x hx
  obtain ⟨de, de1, de2⟩ := w.hL.ent e he
  obtain ⟨a1, a2, a3⟩ := dtOf_some dx2
  obtain ⟨b1, b2, b3⟩ := dtOf_some de2
  have := nodup_eq w.nd dx dx1 de de1 (by omega)
  subst this
  obtain ⟨k1, v1, w1⟩ := x
  obtain ⟨k2, v2, w2⟩ := e
  simp only at a1 a2 a3 b1 b2 b3
  rw [a1, a2, a3, b1, b2, b3]
def VInv (B : Nat) (H0 : AHeap) (m clock need : Nat) (r : Tr) (l : List Dt) (k : Nat) (s : SSt) : Prop := ∃ S ds g, s = ⟨[(0, .yld (B + 2)), (6, .ptr (B + 3) 0)], [], .none, g⟩ ∧ VI B H0 m clock need r S ds g ∧ ds.Perm (seenL l S) ∧ leftV l S = k
def VEnd (B : Nat) (H0 : AHeap) (m clock need : Nat) (r : Tr) (l : List Dt) (e : AEx) (s : SSt) : Prop := e = .exit 0 ∧ ∃ S ds g, s = ⟨[], [], .none, g⟩ ∧ VI B H0 m clock need r S ds g ∧ ds.Perm (l.map (·.f))
theorem values_round {I : Nat → List AV → AHeap → Option (AV × AHeap)} (hf : Fit Tryd.prog) (hI : IntrOK Tryd.prog I) (n : Nat) {B cb m clock need : Nat} {H0 : AHeap} {r : Tr} {es : List AEnt} {l : List Dt} (hB : H0.n = B) (w : MapAt H0 cb m clock es l) (hneed : need = needFn Tryd.f53) (hr : Mod r [(2, .ptr B 0)]) (k : Nat) (s : SSt) (hs : VInv B H0 m clock need r l k s) :
    DoesF Tryd.prog Tryd.f42 none [1, 0, 0] s (LoopD (VInv B H0 m clock need r l) k (VEnd B H0 m clock need r l)) := by
  obtain ⟨S, ds, g, rfl, hv, hp, hk⟩ := hs
  have hcall := run_ok hf hI (n + 1)
  have hdr : ∀ need nt, DrawSpec Tryd.prog need nt (callN Tryd.prog I (n + 1)) := fun need nt => drawSpec hf.mixed hcall need nt
  have hmB : m < B := by have := w.mn; omega
  have hgm : g.get m = some (.map es clock) := (hv.low m hmB).trans w.hm
  have hgn := hv.n
  refine DoesF.seq (p := [1, 0, 0]) (R1 := fun e s => e = .nrm ∧ ((s = ⟨put 8 (.bool false) [(0, .yld (B + 2)), (6, .ptr (B + 3) 0)], [], .none, g⟩ ∧ ∀ e ∈ es, e.born ∈ S) ∨ ∃ e ∈ es, e.born ∉ S ∧ s = ⟨put 8 (.bool true) [(0, .yld (B + 2)), (6, .ptr (B + 3) 0)], [], .none, g.set (B + 3) (some (.mapIter (some m) clock (S ++ [e.born]) clock))⟩)) (by kernel_rfl)
    (DoesF.next hcall (p := [1, 0, 0, 0]) (it := 6) (a := 7) (t := 8) (by kernel_rfl) (by kernel_rfl) (by kernel_rfl) (by kernel_rfl) (by kernel_rfl) rfl hv.it hgm (fun e he => by
      obtain ⟨d, d1, d2⟩ := w.hL.ent e he
      obtain ⟨_, _, a3⟩ := dtOf_some d2
      have := w.lt d d1; omega) (Nat.le_refl _) (fun hall => ⟨rfl, .inl ⟨rfl, hall⟩⟩) fun e he hns => ⟨rfl, .inr ⟨e, he, hns, rfl⟩⟩) (fun s' h1 => ?_) fun e s' he h1 => absurd h1.1 he
  obtain ⟨_, ⟨rfl, hS⟩ | ⟨e, he, hns, rfl⟩⟩ := h1
  · have hSl : ∀ d ∈ l, d.born ∈ S := fun d hd => by
      obtain ⟨e, he, he2⟩ := w.hL.dat d hd
      obtain ⟨_, _, a3⟩ := dtOf_some he2
      rw [← a3]; exact hS e he
    exact DoesF.pre (DoesF.of_run hcall hdr (by kernel_rfl) (va_x (callN Tryd.prog I (n + 1)) g) (.inr ⟨by simp, rfl, S, ds, g, rfl, hv, by rw [← seenL_all hSl]; exact hp⟩)) ⟨rfl, trivial⟩ rfl rfl rfl
  · obtain ⟨d, d1, d2⟩ := w.hL.ent e he
    obtain ⟨a1, a2, a3⟩ := dtOf_some d2
    have hv1 := hv.step e.born
    obtain ⟨g1, hg1⟩ : ∃ g1, g1 = g.set (B + 3) (some (.mapIter (some m) clock (S ++ [e.born]) clock)) := ⟨_, rfl⟩
    rw [← hg1] at hv1 ⊢
    have hm1 : g1.get m = some (.map es clock) := (hv1.low m hmB).trans w.hm
    have ent : entryA g1 (.ptr (B + 3) 0) = some (.tup [.str d.k, .agg (encF d.f)]) := by
      have hfb := findBorn_mem he (fun x hx hb => w.uniq x hx e he hb) rfl
      have hls : lastN (S ++ [e.born]) = some e.born := by rw [lastN_eq]; simp
      unfold entryA
      simp only [hv1.it, hm1, hls, hfb, a1, a2]
      rw [Nat.beq_refl]
    obtain ⟨g2, hg2⟩ : ∃ g2, g2 = (g1.push (.cells [.str [], .str [], .int .u64 (Int.ofNat 0)] 40 .own 0 0)).set g1.n (some (.cells (encF d.f) 40 .own 0 0)) := ⟨_, rfl⟩
    have hv2 : VI B H0 m clock need r (S ++ [e.born]) ds g2 := hv1.top (by rw [hg2]; exact Nat.le_succ _) fun b hb => by rw [hg2]; exact gother (by omega) (gold hb rfl)
    have hlen : ds.length ≤ 100000 := by
      rw [hp.length_eq]
      unfold seenL
      rw [List.length_map]
      exact Nat.le_trans (List.length_filter_le _ _) w.len
    obtain ⟨g3, hy, hv3⟩ := yield_c I n hneed hr hv2 d.f hlen
    have hds : d.born ∉ S := by rw [← a3]; exact hns
    have hperm : (ds ++ [d.f]).Perm (seenL l (S ++ [e.born])) := by
      rw [a3]
      exact (hp.append_right [d.f]).trans (seenL_step hds w.nd d1).symm
    have hlt : leftV l (S ++ [e.born]) < k := by rw [← hk, a3]; exact leftV_step hds w.nd d1
    exact DoesF.pre (DoesF.of_run hcall hdr (by kernel_rfl) (va_b (callN Tryd.prog I (n + 1)) (B + 2) (B + 3) d.f.n d.k d.f.p d.f.x g1 g2 g3 ent (by rw [hg2]; exact stc (gtop rfl) rfl rfl) (ldc (by rw [hg2]; exact gsame rfl) rfl) hy)
      (.inl ⟨rfl, _, hlt, S ++ [e.born], ds ++ [d.f], g3, rfl, hv3, hperm, rfl⟩)) ⟨rfl, rfl, rfl, trivial⟩ rfl rfl rfl
/-- The values, handed to the loop one by one. -/
theorem values_d {I : Nat → List AV → AHeap → Option (AV × AHeap)} (hf : Fit Tryd.prog) (hI : IntrOK Tryd.prog I) (n : Nat) {cb m clock need : Nat} {H0 : AHeap} {r : Tr} {es : List AEnt} {l : List Dt} (w : MapAt H0 cb m clock es l) (hneed : need = needFn Tryd.f53) (hr : Mod r [(2, .ptr H0.n 0)]) :
    FnDoes Tryd.prog 42 [.yld (H0.n + 2), .ptr cb 0] (((H0.push (.cells [.nilS] 32 .own 0 0)).push (.defrd (some []))).push (aqLoop need r (H0.n + 1)))
      (fun v g => v = .tup [] ∧ ∃ S ds, VI H0.n H0 m clock need r S ds g ∧ ds.Perm (l.map (·.f))) := by
  have hcall := run_ok hf hI (n + 1)
  have hdr : ∀ need nt, DrawSpec Tryd.prog need nt (callN Tryd.prog I (n + 1)) := fun need nt => drawSpec hf.mixed hcall need nt
  obtain ⟨HL, hHL⟩ : ∃ HL, HL = ((H0.push (.cells [.nilS] 32 .own 0 0)).push (.defrd (some []))).push (aqLoop need r (H0.n + 1)) := ⟨_, rfl⟩
  have nL : HL.n = H0.n + 3 := by rw [hHL]; rfl
  have lowL : ∀ b, b < H0.n → HL.get b = H0.get b := fun b hb => by rw [hHL]; exact gold (by show b < H0.n + 1 + 1; omega) (gold (by show b < H0.n + 1; omega) (gold hb rfl))
  have cellL : HL.get H0.n = some (.cells [.nilS] 32 .own 0 0) := by rw [hHL]; exact gold (by show H0.n < H0.n + 1 + 1; omega) (gold (by show H0.n < H0.n + 1; omega) (gtop rfl))
  have dfL : HL.get (H0.n + 1) = some (.defrd (some [])) := by rw [hHL]; exact gold (by show H0.n + 1 < H0.n + 1 + 1; omega) (gtop rfl)
  have lpL : HL.get (H0.n + 2) = some (aqLoop need r (H0.n + 1)) := by rw [hHL]; exact gtop rfl
  rw [← hHL]
  have hmn := w.mn
  have hcn := w.cn
  have hg0 : VI H0.n H0 m clock need r [] [] (HL.push (.mapIter (some m) clock [] clock)) :=
    ⟨fun b hb => gold (by omega) (lowL b hb), by show H0.n + 4 ≤ HL.n + 1; omega, gold (by omega) dfL, gold (by omega) lpL, gtop (by omega), .nilS, gold (by omega) cellL, .inl ⟨rfl, rfl⟩⟩
  have run0 := va_0 (callN Tryd.prog I (n + 1)) (H0.n + 2) cb m HL.n HL (HL.push (.mapIter (some m) clock [] clock)) (by unfold load1; rw [lowL cb hcn]; exact w.hc) (by simp only [rangeA, (lowL m hmn).trans w.hm])
  refine FnDoes.of_body hcall hdr hf.code Tryd.func42 (by kernel_rfl) (by kernel_rfl) ?_
  refine DoesF.seq (p := []) (R1 := fun e s => e = .nrm ∧ s = ⟨[(0, .yld (H0.n + 2)), (6, .ptr (H0.n + 3) 0)], [], .none, HL.push (.mapIter (some m) clock [] clock)⟩) (by kernel_rfl) (DoesF.of_run hcall hdr (by kernel_rfl) run0 ⟨rfl, by rw [nL]⟩) (fun s hs => ?_) fun e s he hs => absurd hs.1 he
  obtain ⟨_, rfl⟩ := hs
  refine DoesF.block (p := [1]) (id := 0) (R1 := VEnd H0.n H0 m clock need r l) (by kernel_rfl)
    (DoesF.loop (p := [1, 0]) (VInv H0.n H0 m clock need r l) (by kernel_rfl) (fun k s hs => values_round hf hI n rfl w hneed hr k s hs) (leftV l []) ⟨[], [], _, rfl, hg0, by unfold seenL; simp, rfl⟩)
    fun e s hs => ?_
  obtain ⟨rfl, S, ds, g, rfl, h1, h2⟩ := hs
  exact ⟨.inl rfl, rfl, .tup [], g, evDefers_none (by kernel_rfl), rfl, S, ds, h1, h2⟩
end Go.Proofs.Vf

namespace Go.Proofs.Vf
open Go AEv Go.Proofs
set_option maxRecDepth 100000
set_option maxHeartbeats 1000000

/-- What is gathered: the files of a map, in some order. -/
def Got (H0 : AHeap) (l : List Dt) (v : AV) (g : AHeap) : Prop := H0.n + 4 ≤ g.n ∧ (∀ b, b < H0.n → g.get b = H0.get b) ∧ ∃ ds, ds.Perm (l.map (·.f)) ∧ OutG encF 3 40 (H0.n + 4) g v ds
theorem aq_code : sub (bodyOf Tryd.f53) [1, 0, 1, 0] = .rangeFunc (.tmp 6) #[7] aqAs aqBd := by kernel_rfl
theorem appendseq_d {I : Nat → List AV → AHeap → Option (AV × AHeap)} (hf : Fit Tryd.prog) (hI : IntrOK Tryd.prog I) (n : Nat) {cb m clock : Nat} {H0 : AHeap} {es : List AEnt} {l : List Dt} (w : MapAt H0 cb m clock es l) :
    FnDoes Tryd.prog 53 [.nilS, .fn 42 [] [.ptr cb 0]] H0 (Got H0 l) := by
  have hcall := run_ok hf hI n
  have hdr : ∀ need nt, DrawSpec Tryd.prog need nt (callN Tryd.prog I n) := fun need nt => drawSpec hf.mixed hcall need nt
  refine FnDoes.of_body hcall hdr hf.code Tryd.func53 (by kernel_rfl) (by kernel_rfl) ?_
  refine DoesF.seq (p := []) (R1 := fun e s => e = .nrm ∧ s = ⟨[(1, .fn 42 [] [.ptr cb 0]), (2, .ptr H0.n 0), (4, .nilS)], [], .none, H0.push (.cells [.nilS] 32 .own 0 0)⟩) (by kernel_rfl) (DoesF.of_run hcall hdr (by kernel_rfl) (aq_0 (callN Tryd.prog I n) cb H0) ⟨rfl, rfl⟩) (fun s hs => ?_) fun e s he hs => absurd hs.1 he
  obtain ⟨_, rfl⟩ := hs
  refine DoesF.seq (p := [1]) (R1 := fun e s => e = .nrm ∧ ∃ g v ds, s = ⟨[(2, .ptr H0.n 0)], [.collected (H0.n + 1)], .none, g⟩ ∧ H0.n + 4 ≤ g.n ∧ (∀ b, b < H0.n → g.get b = H0.get b) ∧ g.get (H0.n + 1) = some (.defrd (some [])) ∧ g.get H0.n = some (.cells [v] 32 .own 0 0) ∧ ds.Perm (l.map (·.f)) ∧ OutG encF 3 40 (H0.n + 4) g v ds) (by kernel_rfl) ?_ (fun s hs => ?_) fun e s he hs => absurd hs.1 he
  · refine DoesF.seq (p := [1, 0]) (R1 := fun e s => e = .nrm ∧ s = ⟨[(2, .ptr H0.n 0), (4, .nilS), (6, .fn 42 [] [.ptr cb 0])], [], .none, H0.push (.cells [.nilS] 32 .own 0 0)⟩) (by kernel_rfl) (DoesF.of_run hcall hdr (by kernel_rfl) (aq_1 (callN Tryd.prog I n) H0.n cb _) ⟨rfl, rfl⟩) (fun s hs => ?_) fun e s he hs => absurd hs.1 he
    obtain ⟨_, rfl⟩ := hs
    refine DoesF.block (p := [1, 0, 1]) (id := 0) (R1 := fun e s => e = .nrm ∧ ∃ g v ds, s = ⟨[(2, .ptr H0.n 0)], [.collected (H0.n + 1)], .none, g⟩ ∧ H0.n + 4 ≤ g.n ∧ (∀ b, b < H0.n → g.get b = H0.get b) ∧ g.get (H0.n + 1) = some (.defrd (some [])) ∧ g.get H0.n = some (.cells [v] 32 .own 0 0) ∧ ds.Perm (l.map (·.f)) ∧ OutG encF 3 40 (H0.n + 4) g v ds) (by kernel_rfl) ?_ fun e s hs => ?_
    · intro r hr
      show Does Tryd.prog _ _ none (sub (bodyOf Tryd.f53) [1, 0, 1, 0]) _ _ _ _ _
      rw [aq_code]
      have hr2 : Mod r [(2, .ptr H0.n 0)] := hr.sub ⟨rfl, trivial⟩
      have h6 : r.get (pth 6) = .fn 42 [] [.ptr cb 0] := hr 6 _ rfl
      refine Does.range (g := 42) (first := []) (caps := [.ptr cb 0]) (R0 := fun v g => v = .tup [] ∧ ∃ S ds, VI H0.n H0 m clock (needFn Tryd.f53) r S ds g ∧ ds.Perm (l.map (·.f))) (by rw [← aq_code]; kernel_rfl) ?_ ?_ fun v H3 hR => ?_
      · have : accOf Tryd.prog (needFn Tryd.f53) [] (.tmp 6) = .reg (pth 6) := by kernel_rfl
        rw [this]; exact h6
      · exact values_d hf hI n w rfl hr2
      · obtain ⟨rfl, S, ds, h1, h2⟩ := hR
        obtain ⟨v, h3, h4⟩ := h1.cell
        have hn := h1.n
        refine ⟨.ready, _, r, [7], aqAs, aqBd, H0.n + 1, h1.lp, by simp, _, hr2, rfl, _, v, ds, rfl, hn, fun b hb => gother (by show ¬ b = H0.n + 1 + 1; omega) (h1.low b hb), gother (by show ¬ H0.n + 1 = H0.n + 1 + 1; omega) h1.df, gother (by show ¬ H0.n = H0.n + 1 + 1; omega) h3, h2, ?_⟩
        rcases h4 with h4 | ⟨p, e1, e2, e3, e4, e5⟩
        · exact .inl h4
        · exact .inr ⟨p, e1, e2, gother (by show ¬ p = H0.n + 1 + 1; omega) e3, e4, e5⟩
    · obtain ⟨rfl, hs⟩ := hs
      exact ⟨rfl, hs⟩
  · obtain ⟨_, g, v, ds, rfl, h1, h2, h3, h4, h5, h6⟩ := hs
    refine DoesF.mono (DoesF.of_run (R := fun e s => e = .ret ∧ s = ⟨[(4, v)], [.collected (H0.n + 1)], .none, g⟩) hcall hdr (by kernel_rfl) (?_ : RunF Tryd.prog Tryd.f53 none (callN Tryd.prog I n) [1, 1] ⟨[(2, .ptr H0.n 0)], [.collected (H0.n + 1)], .none, g⟩ .ret ⟨[(4, v)], [.collected (H0.n + 1)], .none, g⟩) ⟨rfl, rfl⟩) fun e s hs => ?_
    · exact aq_f (callN Tryd.prog I n) H0.n (H0.n + 1) v g (ld1 h4 rfl)
    · obtain ⟨rfl, rfl⟩ := hs
      have hne : ∀ b, ¬ b = H0.n + 1 → (g.set (H0.n + 1) (some (.defrd none))).get b = g.get b := fun b hb => gother hb rfl
      refine ⟨.inr rfl, rfl, v, _, evDefers_one h3 (by kernel_rfl), h1, fun b hb => (hne b (by omega)).trans (h2 b hb), ds, h5, ?_⟩
      rcases h6 with h6 | ⟨p, e1, e2, e3, e4, e5⟩
      · exact .inl h6
      · exact .inr ⟨p, e1, e2, (hne p (by omega)).trans e3, e4, e5⟩
theorem collect_d {I : Nat → List AV → AHeap → Option (AV × AHeap)} (hf : Fit Tryd.prog) (hI : IntrOK Tryd.prog I) (n : Nat) {cb m clock : Nat} {H0 : AHeap} {es : List AEnt} {l : List Dt} (w : MapAt H0 cb m clock es l) :
    FnDoes Tryd.prog 40 [.fn 42 [] [.ptr cb 0]] H0 (Got H0 l) := by
  have hcall := run_ok hf hI n
  have hdr : ∀ need nt, DrawSpec Tryd.prog need nt (callN Tryd.prog I n) := fun need nt => drawSpec hf.mixed hcall need nt
  refine FnDoes.of_body hcall hdr hf.code Tryd.func40 (by kernel_rfl) (by kernel_rfl) ?_
  refine DoesF.seq (p := []) (R1 := fun e s => e = .nrm ∧ s = ⟨[(0, .fn 42 [] [.ptr cb 0])], [], .none, H0⟩) (by kernel_rfl) (DoesF.of_run hcall hdr (by kernel_rfl) (co_0 (callN Tryd.prog I n) cb H0) ⟨rfl, rfl⟩) (fun s hs => ?_) fun e s he hs => absurd hs.1 he
  obtain ⟨_, rfl⟩ := hs
  refine DoesF.seq (p := [1]) (R1 := fun e s => e = .nrm ∧ ∃ v g, s.d = [] ∧ s.q = .none ∧ s.h = g ∧ lk 2 s.Γ = some v ∧ Got H0 l v g) (by kernel_rfl)
    (DoesF.call1 (p := [1, 0]) (f := 53) (accs := [.val .nilS, .reg (pth 0)]) (loc := (planOf Tryd.prog (needFn Tryd.f40) (opsOf (sub (bodyOf Tryd.f40) [1, 0]))).loc) (by kernel_rfl) (by kernel_rfl) (args := [.nilS, .fn 42 [] [.ptr cb 0]]) (by kernel_rfl) (appendseq_d hf hI n w) fun v g hg => ⟨rfl, v, g, rfl, rfl, rfl, by kernel_rfl, hg⟩) (fun s hs => ?_) fun e s he hs => absurd hs.1 he
  obtain ⟨_, v, g, h1, h2, h3, h4, h5⟩ := hs
  refine DoesF.pre (DoesF.of_run hcall hdr (by kernel_rfl) (co_e (callN Tryd.prog I n) v g) ?_) ⟨h4, trivial⟩ h1 h2 h3
  exact ⟨.inr rfl, rfl, v, g, evDefers_none (by kernel_rfl), h5⟩
end Go.Proofs.Vf
