/-
  PROVED HERE: contracts of functions (Dc). No condition beside each statement's own.
-/
import Derived.Test.YtlelojncabdnoaaDoorSxa
import Derived.Test.YtlelojncabdnoaaDoorDb
import Derived.Test.YtlelojncabdnoaaDoorSxb
set_option linter.unusedVariables false
set_option linter.unusedSimpArgs false
namespace Go.Proofs.Vf
open Go AEv
theorem ltB_cons (x y : UInt8) (a b : List UInt8) : ltBytes (x :: a) (y :: b) = if x.toNat = y.toNat then ltBytes a b else decide (x.toNat < y.toNat) := by
  by_cases h : x.toNat = y.toNat
  · rw [if_pos h]; simp only [ltBytes, h, Nat.beq_refl]
  · rw [if_neg h]
    have hb : Nat.beq x.toNat y.toNat = false := by
      cases hb : Nat.beq x.toNat y.toNat with
      | false => rfl
      | true => exact absurd (Nat.eq_of_beq_eq_true hb) h
    simp only [ltBytes, hb]
    exact Bool.eq_iff_iff.2 (by rw [Nat.blt_eq]; simp)
theorem ltB_irrefl : ∀ a : List UInt8, ltBytes a a = false
  | [] => rfl
  | x :: a => by rw [ltB_cons, if_pos rfl]; exact ltB_irrefl a
theorem ltB_trans : ∀ a b c : List UInt8, ltBytes a b = true → ltBytes b c = true → ltBytes a c = true
  | [], [], _, h, _ => by cases h
  | _ :: _, [], _, h, _ => by cases h
  | [], _ :: _, [], _, h => by cases h
  | _ :: _, _ :: _, [], _, h => by cases h
  | [], _ :: _, _ :: _, _, _ => rfl
  | x :: a, y :: b, z :: c, h1, h2 => by
    rw [ltB_cons] at h1 h2 ⊢
    by_cases e1 : x.toNat = y.toNat
    · rw [if_pos e1] at h1
      by_cases e2 : y.toNat = z.toNat
      · rw [if_pos e2] at h2; rw [if_pos (e1.trans e2)]; exact ltB_trans a b c h1 h2
      · rw [if_neg e2] at h2; rw [if_neg (by omega)]; simp at h2 ⊢; omega
    · rw [if_neg e1] at h1
      by_cases e2 : y.toNat = z.toNat
      · rw [if_neg (by omega)]; simp at h1 ⊢; omega
      · rw [if_neg e2] at h2; simp at h1 h2; rw [if_neg (by omega)]; simp; omega
theorem ltB_tot : ∀ a b : List UInt8, ltBytes a b = false → ltBytes b a = false → a = b
  | [], [], _, _ => rfl
  | [], _ :: _, h, _ => by cases h
  | _ :: _, [], _, h => by cases h
  | x :: a, y :: b, h1, h2 => by
    rw [ltB_cons] at h1 h2
    by_cases e1 : x.toNat = y.toNat
    · rw [if_pos e1] at h1; rw [if_pos e1.symm] at h2
      rw [UInt8.toNat_inj.1 e1, ltB_tot a b h1 h2]
    · rw [if_neg e1] at h1; rw [if_neg (fun e => e1 e.symm)] at h2
      simp at h1 h2; omega
theorem ltB_ntrans (a b c : List UInt8) (h1 : ltBytes a b = false) (h2 : ltBytes b c = false) : ltBytes a c = false := by
  cases h : ltBytes a c with
  | false => rfl
  | true =>
    cases h3 : ltBytes c b with
    | true => rw [ltB_trans a c b h h3] at h1; cases h1
    | false => rw [ltB_tot b c h2 h3, h] at h1; cases h1
abbrev Str := List UInt8
def leB (a b : Str) : Bool := !ltBytes b a
theorem leB_trans (a b c : Str) (h1 : leB a b = true) (h2 : leB b c = true) : leB a c = true := by
  simp only [leB, Bool.not_eq_true'] at *
  exact ltB_ntrans c b a h2 h1
theorem leB_total (a b : Str) : (leB a b || leB b a) = true := by
  simp only [leB, Bool.or_eq_true, Bool.not_eq_true']
  cases h : ltBytes b a with
  | false => exact .inl rfl
  | true =>
    right
    cases h2 : ltBytes a b with
    | false => rfl
    | true => have := ltB_trans _ _ _ h h2; rw [ltB_irrefl] at this; cases this
theorem leB_anti {a b : Str} (h1 : leB a b = true) (h2 : leB b a = true) : a = b := by
  simp only [leB, Bool.not_eq_true'] at *
  exact ltB_tot _ _ h2 h1
theorem sorted_perm : ∀ {l m : List Str}, l.Pairwise (fun a b => leB a b = true) → m.Pairwise (fun a b => leB a b = true) → l.Perm m → l = m
  | [], m, _, _, h => h.nil_eq
  | a :: l, [], _, _, h => absurd h.length_eq (by simp)
  | a :: l, b :: m, h1, h2, h => by
    have h1' := List.pairwise_cons.1 h1
    have h2' := List.pairwise_cons.1 h2
    have hab : a = b := by
      have ha : a ∈ b :: m := h.subset (by simp)
      have hb : b ∈ a :: l := h.symm.subset (by simp)
      rcases List.mem_cons.1 ha with e | ha
      · exact e
      · rcases List.mem_cons.1 hb with e | hb
        · exact e.symm
        · exact leB_anti (h1'.1 b hb) (h2'.1 a ha)
    subst hab
    rw [sorted_perm h1'.2 h2'.2 (List.Perm.cons_inv h)]
def sortP (l : List Str) : List Str := l.mergeSort leB
theorem sortP_perm {l m : List Str} (h : l.Perm m) : sortP l = sortP m :=
  sorted_perm (List.pairwise_mergeSort leB_trans leB_total l) (List.pairwise_mergeSort leB_trans leB_total m) (((List.mergeSort_perm l leB).trans h).trans (List.mergeSort_perm m leB).symm)
end Go.Proofs.Vf

namespace Go.Proofs.Vf
open Go AEv Go.Proofs Go.Sort Go.Shelf
set_option maxRecDepth 100000
set_option maxHeartbeats 1000000

theorem nn (call : CallT → List AV → AHeap → FRes) (s : List UInt8) (h : AHeap) :
    RunF Tryd.prog Tryd.f43 none call [] (SSt.mk [(0, .str s)] [] .none h) (.ret)
      (SSt.mk [(2, .bool !beqBytes s s)] [] .none h) :=
  sxF_run [2] (hs := []) (by kernel_rfl) <| .nil
theorem cp_1 (call : CallT → List AV → AHeap → FRes) (a b : List UInt8) (h : AHeap)
    (H1 : call (.fn 43) [.str a] h = FRes.ret (.bool false) h)
    (H2 : call (.fn 43) [.str b] h = FRes.ret (.bool false) h)
    (H3 : ltBytes a b = true) :
    RunF Tryd.prog Tryd.f25 none call [] (SSt.mk [(0, .str a), (1, .str b)] [] .none h) (.ret)
      (SSt.mk [(4, .int .i64 (.negSucc 0))] [] .none h) :=
  sxF_run [4] (hs := [.c (.bool false) h, .c (.bool false) h, .b false, .b false, .b true]) (by kernel_rfl) <| .cons H1 <| .cons H2 <| .cons (by kernel_rfl : false = false) <| .cons (by kernel_rfl : false = false) <| .cons H3 <| .nil
theorem cp_2 (call : CallT → List AV → AHeap → FRes) (a b : List UInt8) (h : AHeap)
    (H1 : call (.fn 43) [.str a] h = FRes.ret (.bool false) h)
    (H2 : call (.fn 43) [.str b] h = FRes.ret (.bool false) h)
    (H3 : ltBytes a b = false)
    (H4 : ltBytes b a = true) :
    RunF Tryd.prog Tryd.f25 none call [] (SSt.mk [(0, .str a), (1, .str b)] [] .none h) (.ret)
      (SSt.mk [(4, .int .i64 (.ofNat 1))] [] .none h) :=
  sxF_run [4] (hs := [.c (.bool false) h, .c (.bool false) h, .b false, .b false, .b false, .b true]) (by kernel_rfl) <| .cons H1 <| .cons H2 <| .cons (by kernel_rfl : false = false) <| .cons (by kernel_rfl : false = false) <| .cons H3 <| .cons H4 <| .nil
theorem cp_3 (call : CallT → List AV → AHeap → FRes) (a b : List UInt8) (h : AHeap)
    (H1 : call (.fn 43) [.str a] h = FRes.ret (.bool false) h)
    (H2 : call (.fn 43) [.str b] h = FRes.ret (.bool false) h)
    (H3 : ltBytes a b = false)
    (H4 : ltBytes b a = false) :
    RunF Tryd.prog Tryd.f25 none call [] (SSt.mk [(0, .str a), (1, .str b)] [] .none h) (.ret)
      (SSt.mk [(4, .int .i64 (.ofNat 0))] [] .none h) :=
  sxF_run [4] (hs := [.c (.bool false) h, .c (.bool false) h, .b false, .b false, .b false, .b false]) (by kernel_rfl) <| .cons H1 <| .cons H2 <| .cons (by kernel_rfl : false = false) <| .cons (by kernel_rfl : false = false) <| .cons H3 <| .cons H4 <| .nil
theorem lc (call : CallT → List AV → AHeap → FRes) (p x q y : List UInt8) (n k : Nat) (r : Int) (h g : AHeap)
    (H1 : load1 (AHeap.push (AHeap.push h (.cells [.str p, .str x, .int .u64 (.ofNat n)] 40 .own 0 0)) (.cells [.str q, .str y, .int .u64 (.ofNat k)] 40 .own 0 0)) (AHeap.n h) (0 + 0) = some (.str p))
    (H2 : load1 (AHeap.push (AHeap.push h (.cells [.str p, .str x, .int .u64 (.ofNat n)] 40 .own 0 0)) (.cells [.str q, .str y, .int .u64 (.ofNat k)] 40 .own 0 0)) (AHeap.n (AHeap.push h (.cells [.str p, .str x, .int .u64 (.ofNat n)] 40 .own 0 0))) (0 + 0) = some (.str q))
    (H3 : call (.fn 25) [.str p, .str q] (AHeap.push (AHeap.push h (.cells [.str p, .str x, .int .u64 (.ofNat n)] 40 .own 0 0)) (.cells [.str q, .str y, .int .u64 (.ofNat k)] 40 .own 0 0)) = FRes.ret (.int .i64 r) g) :
    RunF Tryd.prog Tryd.f24 none call [] (SSt.mk [(0, .agg [.str p, .str x, .int .u64 (.ofNat n)]), (1, .agg [.str q, .str y, .int .u64 (.ofNat k)])] [] .none h) (.ret)
      (SSt.mk [(4, .int .i64 r)] [] .none g) :=
  sxF_run [4] (hs := [.v (.str p), .v (.str q), .c (.int .i64 r) g]) (by kernel_rfl) <| .cons H1 <| .cons H2 <| .cons H3 <| .nil

/-! ### slices.SortFunc at files, by their paths -/
def sortRen : Go.Shelf.Ren := ⟨fun | 6 => 41 | 14 => 54 | 15 => 55 | 20 => 63 | 21 => 64 | 22 => 65 | 23 => 66 | 24 => 67 | 25 => 68 | 26 => 69 | 27 => 70 | 28 => 71 | 29 => 72 | 46 => 78 | 47 => 79 | 48 => 80 | 49 => 81 | 50 => 82 | 57 => 88 | n => n, fun | 0 => 0 | 3 => 3 | 4 => 4 | 5 => 5 | 9 => 9 | 22 => 32 | 24 => 40 | 25 => 65 | 39 => 89 | 45 => 101 | 46 => 102 | 50 => 106 | 53 => 109 | 55 => 22 | 66 => 122 | 70 => 126 | 76 => 131 | 77 => 132 | n => n, fun n => n⟩
theorem sortLays : SlLaysF0.n6 Tryd.prog sortRen where
  mixed := by kernel_rfl
  f6 := ⟨Tryd.f41.name, by decide, Tryd.func41.trans (congrArg some (by kernel_rfl))⟩
  f14 := ⟨Tryd.f54.name, by decide, Tryd.func54.trans (congrArg some (by kernel_rfl))⟩
  f15 := Tryd.func55.trans (congrArg some (by kernel_rfl))
  f20 := ⟨Tryd.f63.name, by decide, Tryd.func63.trans (congrArg some (by kernel_rfl))⟩
  f21 := ⟨Tryd.f64.name, by decide, Tryd.func64.trans (congrArg some (by kernel_rfl))⟩
  f22 := ⟨Tryd.f65.name, by decide, Tryd.func65.trans (congrArg some (by kernel_rfl))⟩
  f23 := ⟨Tryd.f66.name, by decide, Tryd.func66.trans (congrArg some (by kernel_rfl))⟩
  f24 := ⟨Tryd.f67.name, by decide, Tryd.func67.trans (congrArg some (by kernel_rfl))⟩
  f25 := ⟨Tryd.f68.name, by decide, Tryd.func68.trans (congrArg some (by kernel_rfl))⟩
  f26 := ⟨Tryd.f69.name, by decide, Tryd.func69.trans (congrArg some (by kernel_rfl))⟩
  f27 := ⟨Tryd.f70.name, by decide, Tryd.func70.trans (congrArg some (by kernel_rfl))⟩
  f28 := Tryd.func71.trans (congrArg some (by kernel_rfl))
  f29 := Tryd.func72.trans (congrArg some (by kernel_rfl))
  f46 := ⟨Tryd.f78.name, by decide, Tryd.func78.trans (congrArg some (by kernel_rfl))⟩
  f47 := Tryd.func79.trans (congrArg some (by kernel_rfl))
  f48 := Tryd.func80.trans (congrArg some (by kernel_rfl))
  f49 := ⟨Tryd.f81.name, by decide, Tryd.func81.trans (congrArg some (by kernel_rfl))⟩
  f50 := ⟨Tryd.f82.name, by decide, Tryd.func82.trans (congrArg some (by kernel_rfl))⟩
  f57 := ⟨Tryd.f88.name, by decide, Tryd.func88.trans (congrArg some (by kernel_rfl))⟩
  t0 := Tryd.underlying0
  a0 := Tryd.isAgg0
  z0 := Tryd.sizeOf0
  v0 := Tryd.zeroValue0
  t3 := Tryd.underlying3
  a3 := Tryd.isAgg3
  z3 := Tryd.sizeOf3
  v3 := Tryd.zeroValue3
  t4 := Tryd.underlying4
  a4 := Tryd.isAgg4
  z4 := Tryd.sizeOf4
  v4 := Tryd.zeroValue4
  t5 := Tryd.underlying5
  a5 := Tryd.isAgg5
  z5 := Tryd.sizeOf5
  v5 := Tryd.zeroValue5
  t9 := Tryd.underlying9
  a9 := Tryd.isAgg9
  z9 := Tryd.sizeOf9
  v9 := Tryd.zeroValue9
  t22 := Tryd.underlying32
  a22 := Tryd.isAgg32
  z22 := Tryd.sizeOf32
  v22 := Tryd.zeroValue32
  t25 := Tryd.underlying65
  a25 := Tryd.isAgg65
  z25 := Tryd.sizeOf65
  v25 := Tryd.zeroValue65
  t39 := Tryd.underlying89
  a39 := Tryd.isAgg89
  z39 := Tryd.sizeOf89
  v39 := Tryd.zeroValue89
  t45 := Tryd.underlying101
  a45 := Tryd.isAgg101
  z45 := Tryd.sizeOf101
  v45 := Tryd.zeroValue101
  t46 := Tryd.underlying102
  a46 := Tryd.isAgg102
  z46 := Tryd.sizeOf102
  v46 := Tryd.zeroValue102
  t50 := Tryd.underlying106
  a50 := Tryd.isAgg106
  z50 := Tryd.sizeOf106
  v50 := Tryd.zeroValue106
  t53 := Tryd.underlying109
  a53 := Tryd.isAgg109
  z53 := Tryd.sizeOf109
  v53 := Tryd.zeroValue109
  t55 := Tryd.underlying22
  a55 := Tryd.isAgg22
  z55 := Tryd.sizeOf22
  v55 := Tryd.zeroValue22
  t66 := Tryd.underlying122
  a66 := Tryd.isAgg122
  z66 := Tryd.sizeOf122
  v66 := Tryd.zeroValue122
  t70 := Tryd.underlying126
  a70 := Tryd.isAgg126
  z70 := Tryd.sizeOf126
  v70 := Tryd.zeroValue126
  t76 := Tryd.underlying131
  a76 := Tryd.isAgg131
  z76 := Tryd.sizeOf131
  v76 := Tryd.zeroValue131
  t77 := Tryd.underlying132
  a77 := Tryd.isAgg132
  z77 := Tryd.sizeOf132
  v77 := Tryd.zeroValue132

def cfP (x y : Str) : Int := if ltBytes x y then -1 else if ltBytes y x then 1 else 0
theorem nan_c (m : Nat) (s : Str) (h : AHeap) : callN Tryd.prog (fun _ _ _ => none) (m + 1) (.fn 43) [.str s] h = .ret (.bool false) h := by
  have e : beqBytes s s = true := by rw [beqBytes_eq]; simp
  exact fn_runF (intr := fun _ _ _ => none) (n := m) (args := [.str s]) Tryd.func43 (by kernel_rfl) rfl (by kernel_rfl) (nn (callN Tryd.prog (fun _ _ _ => none) m) s h) (.inl rfl) (by rw [e]; kernel_rfl)
theorem cmp_c (m : Nat) (a b : Str) (h : AHeap) : callN Tryd.prog (fun _ _ _ => none) (m + 2) (.fn 25) [.str a, .str b] h = .ret (.int .i64 (cfP a b)) h := by
  have n1 := nan_c m a h
  have n2 := nan_c m b h
  have go : ∀ (r : Int), RunF Tryd.prog Tryd.f25 none (callN Tryd.prog (fun _ _ _ => none) (m + 1)) [] ⟨[(0, .str a), (1, .str b)], [], .none, h⟩ .ret ⟨[(4, .int .i64 r)], [], .none, h⟩ → callN Tryd.prog (fun _ _ _ => none) (m + 2) (.fn 25) [.str a, .str b] h = .ret (.int .i64 r) h := fun r hr =>
    fn_runF (intr := fun _ _ _ => none) (n := m + 1) (args := [.str a, .str b]) Tryd.func25 (by kernel_rfl) rfl (by kernel_rfl) hr (.inl rfl) (by kernel_rfl)
  unfold cfP
  cases h1 : ltBytes a b with
  | true => exact go _ (cp_1 _ a b h n1 n2 h1)
  | false =>
    cases h2 : ltBytes b a with
    | true => exact go _ (cp_2 _ a b h n1 n2 h1 h2)
    | false => exact go _ (cp_3 _ a b h n1 n2 h1 h2)
theorem ltOf_cfP (x y : Str) : ltOf cfP x y = ltBytes x y := by
  unfold ltOf cfP
  cases h1 : ltBytes x y with
  | true => simp
  | false =>
    cases h2 : ltBytes y x with
    | true => simp
    | false => simp
theorem ltB_swo : SWO ltBytes where
  irrefl x := ltB_irrefl x
  trans x y z h1 h2 := ltB_trans x y z h1 h2
  ntrans x y z h1 h2 := ltB_ntrans x y z h1 h2
/-- Files by their paths: what is at a path is told by a function. -/
def encP (F : Str → Str × Nat) (p : Str) : List AV := [.str p, .str (F p).1, .int .u64 (Int.ofNat (F p).2)]
def encPV (F : Str → Str × Nat) (p : Str) : List Value := [.string ⟨p.toArray⟩, .string ⟨(F p).1.toArray⟩, .int .u64 (Int.ofNat (F p).2)]
theorem str_rel1 {μ : Mu} {s : Str} {u : Value} (h : VRel μ (.str s) u) : u = .string ⟨s.toArray⟩ := by
  obtain ⟨t, rfl, ht⟩ := h
  cases t with
  | mk data => simp only [← ht]
theorem encP_rel1 (F : Str → Str × Nat) (μ : Mu) (d : Str) (t : Nat) (a : AV) (u : Value) (h : (encP F d)[t]? = some a) (hr : VRel μ a u) : (encPV F d)[t]? = some u := by
  rcases t with _ | _ | _ | t
  · have e : a = .str d := by simpa [encP] using h.symm
    subst e
    rw [str_rel1 hr]; rfl
  · have e : a = .str (F d).1 := by simpa [encP] using h.symm
    subst e
    rw [str_rel1 hr]; rfl
  · have e : a = .int .u64 (Int.ofNat (F d).2) := by simpa [encP] using h.symm
    subst e
    have : u = .int .u64 (Int.ofNat (F d).2) := hr
    rw [this]; rfl
  · simp [encP] at h
theorem encP_rel2 (F : Str → Str × Nat) (μ : Mu) (d : Str) (t : Nat) (a : AV) (u : Value) (h : (encP F d)[t]? = some a) (hu : (encPV F d)[t]? = some u) : VRel μ a u := by
  rcases t with _ | _ | _ | t
  · have e : a = .str d := by simpa [encP] using h.symm
    have e2 : u = .string ⟨d.toArray⟩ := by simpa [encPV] using hu.symm
    subst e; subst e2
    exact ⟨_, rfl, by simp⟩
  · have e : a = .str (F d).1 := by simpa [encP] using h.symm
    have e2 : u = .string ⟨(F d).1.toArray⟩ := by simpa [encPV] using hu.symm
    subst e; subst e2
    exact ⟨_, rfl, by simp⟩
  · have e : a = .int .u64 (Int.ofNat (F d).2) := by simpa [encP] using h.symm
    have e2 : u = .int .u64 (Int.ofNat (F d).2) := by simpa [encPV] using hu.symm
    subst e; subst e2; rfl
  · simp [encP] at h
theorem flAgg : isAggT Tryd.prog 40 = some true := by kernel_rfl
theorem flSize : sizeT Tryd.prog 40 = some 3 := by kernel_rfl
noncomputable def sortF (F : Str → Str × Nat) : Nat → List AV → AHeap → Option (AV × AHeap) := sortI (encP F) sortP 41 24
theorem sortF_ok (hf : Fit Tryd.prog) (F : Str → Str × Nat) : IntrOK Tryd.prog (sortF F) := by
  obtain ⟨c, hc⟩ := Option.isSome_iff_exists.1 (show Tryd.f24.body.isSome = true by kernel_rfl)
  have hcf : ltOf cfP = ltBytes := funext fun x => funext fun y => ltOf_cfP x y
  have key := sortI_ok (P := Tryd.prog) (ρ := sortRen) hf sortLays (w := 3) (by omega) (fun W => AEv.run_isAgg flAgg) (fun W => AEv.run_sizeOf flSize) (encA := encP F) (encV := encPV F) (fun _ => rfl) (fun _ => rfl) (encP_rel1 F) (encP_rel2 F)
    (fun d v hv => by simp [encPV] at hv; rcases hv with rfl | rfl | rfl <;> rfl) cfP (by rw [hcf]; exact ltB_swo) (fun x y h1 h2 => by
      rw [hcf] at h1 h2
      exact ltB_tot x y h1 h2) (g := 24) Tryd.func24 hc (intr_none Tryd.prog) (fun x y => by
      refine ⟨3, _, fn_runF (intr := fun _ _ _ => none) (n := 2) (args := [.agg (encP F x), .agg (encP F y)]) Tryd.func24 (by kernel_rfl) rfl (by kernel_rfl) (lc (callN Tryd.prog (fun _ _ _ => none) 2) x (F x).1 y (F y).1 (F x).2 (F y).2 (cfP x y) _ _ (ld1 (gold (Nat.lt_succ_self _) (gtop rfl)) rfl) (ld1 (gtop rfl) rfl) (cmp_c 0 x y _)) (.inl rfl) (by kernel_rfl)⟩)
  rw [hcf] at key
  exact key
end Go.Proofs.Vf

namespace Go.Proofs.Vf
open Go AEv Go.Proofs Go.Sort Go.Shelf
set_option maxRecDepth 100000
set_option maxHeartbeats 1000000

/-! ### A map's files, sorted by their paths -/
def insB (x : Str) : List Str → List Str
  | [] => [x]
  | y :: l => match ltBytes y x with
    | true => y :: insB x l
    | false => x :: y :: l
def isortB : List Str → List Str
  | [] => []
  | x :: l => insB x (isortB l)
theorem insB_perm (x : Str) : ∀ l : List Str, (insB x l).Perm (x :: l)
  | [] => List.Perm.refl _
  | y :: l => by
    unfold insB
    split
    · exact (List.Perm.cons y (insB_perm x l)).trans (List.Perm.swap x y l)
    · exact List.Perm.refl _
theorem isortB_perm : ∀ l : List Str, (isortB l).Perm l
  | [] => List.Perm.refl _
  | x :: l => (insB_perm x (isortB l)).trans (List.Perm.cons x (isortB_perm l))
theorem insB_sorted (x : Str) : ∀ l : List Str, l.Pairwise (fun a b => leB a b = true) → (insB x l).Pairwise (fun a b => leB a b = true)
  | [], _ => by unfold insB; simp
  | y :: l, h => by
    have h' := List.pairwise_cons.1 h
    unfold insB
    split
    · rename_i hlt
      refine List.pairwise_cons.2 ⟨fun z hz => ?_, insB_sorted x l h'.2⟩
      rcases List.mem_cons.1 ((insB_perm x l).subset hz) with rfl | hz
      · simp only [leB, Bool.not_eq_true']
        cases h2 : ltBytes z y with
        | false => rfl
        | true => have := ltB_trans _ _ _ hlt h2; rw [ltB_irrefl] at this; cases this
      · exact h'.1 z hz
    · rename_i hlt
      have hxy : leB x y = true := by simp only [leB, Bool.not_eq_true']; exact hlt
      refine List.pairwise_cons.2 ⟨fun z hz => ?_, h⟩
      rcases List.mem_cons.1 hz with rfl | hz
      · exact hxy
      · exact leB_trans _ _ _ hxy (h'.1 z hz)
theorem isortB_sorted : ∀ l : List Str, (isortB l).Pairwise (fun a b => leB a b = true)
  | [] => List.Pairwise.nil
  | x :: l => insB_sorted x _ (isortB_sorted l)
theorem sortP_eq (l : List Str) : sortP l = isortB l :=
  sorted_perm (List.pairwise_mergeSort leB_trans leB_total l) (isortB_sorted l) ((List.mergeSort_perm l leB).trans (isortB_perm l).symm)
/-- What is at a path. -/
def atP : List Dt → Str → Str × Nat
  | [], _ => ([], 0)
  | d :: l, p => match beqBytes d.f.p p with
    | true => (d.f.x, d.f.n)
    | false => atP l p
theorem atP_mem : ∀ {l : List Dt}, (l.map (·.f.p)).Nodup → ∀ d ∈ l, atP l d.f.p = (d.f.x, d.f.n)
  | [], _, d, hd => by cases hd
  | x :: l, hn, d, hd => by
    have hn' : x.f.p ∉ l.map (·.f.p) ∧ (l.map (·.f.p)).Nodup := List.nodup_cons.1 hn
    unfold atP
    rcases List.mem_cons.1 hd with rfl | hd
    · have : beqBytes d.f.p d.f.p = true := by rw [beqBytes_eq]; simp
      rw [this]
    · have hne : ¬ x.f.p = d.f.p := fun e => hn'.1 (List.mem_map.2 ⟨d, hd, e.symm⟩)
      have : beqBytes x.f.p d.f.p = false := by
        rw [beqBytes_eq]
        simpa using hne
      rw [this]
      exact atP_mem hn'.2 d hd
def listD (l : List Dt) : List Fl := (isortB (l.map (·.f.p))).map fun p => ⟨p, (atP l p).1, (atP l p).2⟩
theorem rowL_encP (F : Str → Str × Nat) : ∀ ps : List Str, rowL (encP F) ps = rowL encF (ps.map fun p => ⟨p, (F p).1, (F p).2⟩)
  | [] => rfl
  | p :: ps => by
    have ih := rowL_encP F ps
    rw [rowL_cons, List.map_cons, rowL_cons, ih]
    rfl
theorem rowL_files {l : List Dt} (hn : (l.map (·.f.p)).Nodup) : ∀ {ds : List Fl}, (∀ f ∈ ds, ∃ d ∈ l, d.f = f) → rowL encF ds = rowL (encP (atP l)) (ds.map (·.p))
  | [], _ => rfl
  | f :: ds, h => by
    have ih := rowL_files hn (ds := ds) fun f hf => h f (by simp [hf])
    rw [List.map_cons, rowL_cons, rowL_cons, ih]
    obtain ⟨d, hd, rfl⟩ := h f (by simp)
    have := atP_mem hn d hd
    unfold encP
    rw [this]
theorem sorted_d (hf : Fit Tryd.prog) {cb m clock : Nat} {H0 : AHeap} {es : List AEnt} {l : List Dt} (w : MapAt H0 cb m clock es l) (hp : (l.map (·.f.p)).Nodup) :
    FnDoes Tryd.prog 22 [.fn 42 [] [.ptr cb 0], .fn 24 [] []] H0
      (fun v g => (∀ b, b < H0.n → g.get b = H0.get b) ∧ ((l = [] ∧ v = .nilS) ∨ ∃ p, 0 < l.length ∧ v = .slice p 0 l.length (.opn 3) ∧ H0.n ≤ p ∧ g.get p = some (.cells (rowL encF (listD l)) 40 .opn 0 0))) := by
  obtain ⟨I, hI0⟩ : ∃ I, I = orI (sort0I 41) (sortF (atP l)) := ⟨_, rfl⟩
  have hI : IntrOK Tryd.prog I := by rw [hI0]; exact orI_ok (sort0I_ok sortLays) (sortF_ok hf (atP l))
  have hcall := run_ok hf hI 1
  have hdr : ∀ need nt, DrawSpec Tryd.prog need nt (callN Tryd.prog I 1) := fun need nt => drawSpec hf.mixed hcall need nt
  refine FnDoes.of_body hcall hdr hf.code Tryd.func22 (by kernel_rfl) (by kernel_rfl) ?_
  refine DoesF.seq (p := []) (R1 := fun e s => e = .nrm ∧ s = ⟨[(0, .fn 42 [] [.ptr cb 0]), (1, .fn 24 [] [])], [], .none, H0⟩) (by kernel_rfl) (DoesF.of_run hcall hdr (by kernel_rfl) (sf_0 (callN Tryd.prog I 1) cb H0) ⟨rfl, rfl⟩) (fun s hs => ?_) fun e s he hs => absurd hs.1 he
  obtain ⟨_, rfl⟩ := hs
  refine DoesF.seq (p := [1]) (R1 := fun e s => e = .nrm ∧ ∃ v g, s.d = [] ∧ s.q = .none ∧ s.h = g ∧ lk 5 s.Γ = some v ∧ lk 1 s.Γ = some (.fn 24 [] []) ∧ Got H0 l v g) (by kernel_rfl)
    (DoesF.call1 (p := [1, 0]) (f := 40) (accs := [.reg (pth 0)]) (loc := (planOf Tryd.prog (needFn Tryd.f22) (opsOf (sub (bodyOf Tryd.f22) [1, 0]))).loc) (by kernel_rfl) (by kernel_rfl) (args := [.fn 42 [] [.ptr cb 0]]) (by kernel_rfl) (collect_d hf hI 1 w) fun v g hg => ⟨rfl, v, g, rfl, rfl, rfl, by kernel_rfl, by kernel_rfl, hg⟩) (fun s hs => ?_) fun e s he hs => absurd hs.1 he
  obtain ⟨_, v, g, h1, h2, h3, h4, h4', hn, hlow, ds, hperm, ho⟩ := hs
  have hlen : ds.length = l.length := by rw [hperm.length_eq, List.length_map]
  rcases ho with ⟨rfl, rfl⟩ | ⟨p, rfl, e2, e3, e4, e5⟩
  · have hl0 : l = [] := List.eq_nil_of_length_eq_zero (by simpa using hlen.symm)
    have hc : callN Tryd.prog I 1 (.fn 41) [.nilS, .fn 24 [] []] g = .ret (.tup []) g := by
      rw [hI0]; rfl
    refine DoesF.pre (DoesF.of_run hcall hdr (by kernel_rfl) (sf_1 (callN Tryd.prog I 1) .nilS g g hc) ?_) ⟨h4', h4, trivial⟩ h1 h2 h3
    exact ⟨.inr rfl, rfl, .nilS, g, evDefers_none (by kernel_rfl), hlow, .inl ⟨hl0, rfl⟩⟩
  · have hmem : ∀ f ∈ ds, ∃ d ∈ l, d.f = f := fun f hfm => by
      obtain ⟨d, h5, h6⟩ := List.mem_map.1 (hperm.subset hfm)
      exact ⟨d, h5, h6⟩
    rw [rowL_files hp hmem] at e3
    have hsort := sortI_eq (enc := encP (atP l)) (srt := sortP) (w := 3) (fun _ => rfl) (fun a b e => by simp only [encP, List.cons.injEq, AV.str.injEq] at e; exact e.1) (fS := 41) (g := 24) (b := p) (len := ds.length) (cap := .opn 3) (H := g) (ds := ds.map (·.p)) (rest := []) (el := 40) (k := .opn) e2 (by have := w.len; omega) (by rw [List.append_nil]; exact e3) (by simp) (.inr rfl)
    rw [List.append_nil] at hsort
    have hc : callN Tryd.prog I 1 (.fn 41) [.slice p 0 ds.length (.opn 3), .fn 24 [] []] g = .ret (.tup []) (g.set p (some (.cells (rowL (encP (atP l)) (sortP (ds.map (·.p)))) 40 .opn 0 0))) := by
      have h0 : sort0I 41 41 [.slice p 0 ds.length (.opn 3), .fn 24 [] []] g = none := by
        obtain ⟨k, hk⟩ : ∃ k, ds.length = k + 1 := ⟨ds.length - 1, by omega⟩
        rw [hk]; rfl
      have : I 41 [.slice p 0 ds.length (.opn 3), .fn 24 [] []] g = some (.tup [], g.set p (some (.cells (rowL (encP (atP l)) (sortP (ds.map (·.p)))) 40 .opn 0 0))) := by
        rw [hI0]; unfold orI; rw [h0]; exact hsort
      simp only [callN, this]
    refine DoesF.pre (DoesF.of_run hcall hdr (by kernel_rfl) (sf_1 (callN Tryd.prog I 1) (.slice p 0 ds.length (.opn 3)) g _ hc) ?_) ⟨h4', h4, trivial⟩ h1 h2 h3
    have hps : sortP (ds.map (·.p)) = isortB (l.map (·.f.p)) := by
      rw [← sortP_eq]
      refine sortP_perm ?_
      have := hperm.map (·.p)
      rwa [List.map_map] at this
    refine ⟨.inr rfl, rfl, .slice p 0 ds.length (.opn 3), _, evDefers_none (by kernel_rfl), fun b hb => (gother (by omega) rfl).trans (hlow b hb), .inr ⟨p, by omega, by rw [hlen], by omega, ?_⟩⟩
    rw [gsame rfl, hps, rowL_encP]
    rfl
/-! ### Told -/
def dtsOf : List AEnt → Option (List Dt)
  | [] => some []
  | e :: es => match dtOf e with
    | some d => match dtsOf es with
      | some l => some (d :: l)
      | none => none
    | none => none
theorem dtsOf_some : ∀ {es : List AEnt} {l : List Dt}, dtsOf es = some l → Dts es l
  | [], l, hl => by cases hl; exact .nil
  | e :: es, l, hl => by
    unfold dtsOf at hl
    split at hl
    · rename_i d hd
      split at hl
      · rename_i l' hl'
        cases hl
        exact .cons hd (dtsOf_some hl')
      · cases hl
    · cases hl
def ndN : List Nat → Bool
  | [] => true
  | a :: l => match l.any fun x => Nat.beq a x with
    | true => false
    | false => ndN l
theorem ndN_ok : ∀ {l : List Nat}, ndN l = true → l.Nodup
  | [], _ => List.nodup_nil
  | a :: l, h => by
    unfold ndN at h
    split at h
    · cases h
    · rename_i h1
      refine List.nodup_cons.2 ⟨fun hm => ?_, ndN_ok h⟩
      have : (l.any fun x => Nat.beq a x) = true := List.any_eq_true.2 ⟨a, hm, Nat.beq_refl _⟩
      rw [this] at h1; cases h1
def ndB : List Str → Bool
  | [] => true
  | a :: l => match l.any fun x => beqBytes a x with
    | true => false
    | false => ndB l
theorem ndB_ok : ∀ {l : List Str}, ndB l = true → l.Nodup
  | [], _ => List.nodup_nil
  | a :: l, h => by
    unfold ndB at h
    split at h
    · cases h
    · rename_i h1
      refine List.nodup_cons.2 ⟨fun hm => ?_, ndB_ok h⟩
      have : (l.any fun x => beqBytes a x) = true := List.any_eq_true.2 ⟨a, hm, by rw [beqBytes_eq]; simp⟩
      rw [this] at h1; cases h1
def listI (f : Nat) (args : List AV) (H : AHeap) : Option (AV × AHeap) := match Nat.beq f 22, args with
  | true, [.fn f1 [] [.ptr cb 0], .fn f2 [] []] => match Nat.beq f1 42 && Nat.beq f2 24, load1 H cb 0 with
    | true, some (.map m) => match H.get m with
      | some (.map es clock) => match dtsOf es with
        | some l => match ndN (l.map (·.born)) && (ndB (l.map (·.f.p)) && ((l.all fun d => Nat.blt d.born clock) && (Nat.ble l.length 100000 && (Nat.blt cb H.n && Nat.blt m H.n)))), l with
          | true, [] => some (.nilS, H)
          | true, d :: l' => some (.slice H.n 0 (d :: l').length (.opn 3), H.push (.cells (rowL encF (listD (d :: l'))) 40 .opn 0 0))
          | false, _ => none
        | none => none
      | _ => none
    | _, _ => none
  | _, _ => none
theorem rowF_free : ∀ l : List Fl, refFrees (rowL encF l) = true
  | [] => rfl
  | d :: l => by
    rw [rowL_cons]
    show (true && (true && (true && refFrees (rowL encF l)))) = true
    rw [rowF_free l]; rfl
theorem list_ok (hf : Fit Tryd.prog) : IntrOK Tryd.prog listI := by
  intro f args H v H' hx μ W vs hh hg hv
  unfold listI at hx
  split at hx
  · rename_i f1 cb f2 hfe
    obtain rfl := Nat.eq_of_beq_eq_true hfe
    split at hx
    · rename_i m hff hc
      simp only [Bool.and_eq_true] at hff
      obtain ⟨hf1, hf2⟩ := hff
      obtain rfl := Nat.eq_of_beq_eq_true hf1
      obtain rfl := Nat.eq_of_beq_eq_true hf2
      split at hx
      · rename_i es clock hm
        split at hx
        · rename_i l hl
          have key : (ndN (l.map (·.born)) && (ndB (l.map (·.f.p)) && ((l.all fun d => Nat.blt d.born clock) && (Nat.ble l.length 100000 && (Nat.blt cb H.n && Nat.blt m H.n))))) = true → MapAt H cb m clock es l ∧ (l.map (·.f.p)).Nodup := fun h => by
            simp only [Bool.and_eq_true, Nat.blt_eq] at h
            obtain ⟨k1, k2, k3, k4, k5, k6⟩ := h
            exact ⟨⟨hc, hm, dtsOf_some hl, ndN_ok k1, fun d hd => by simpa using List.all_eq_true.1 k3 d hd, Nat.le_of_ble_eq_true k4, k5, k6⟩, ndB_ok k2⟩
          split at hx
          · rename_i hk
            cases hx
            obtain ⟨w, hp⟩ := key hk
            refine (sorted_d hf w hp μ W vs hh hg hv).mono fun e w' hC => ?_
            obtain ⟨v, g, ⟨hlow, h1⟩, hE⟩ := hC
            rcases h1 with ⟨_, rfl⟩ | ⟨p, h0, _⟩
            · exact Ends.none rfl hlow hh hE
            · simp at h0
          · rename_i d l' hk
            cases hx
            obtain ⟨w, hp⟩ := key hk
            refine (sorted_d hf w hp μ W vs hh hg hv).mono fun e w' hC => ?_
            obtain ⟨v, g, ⟨hlow, h1⟩, hE⟩ := hC
            rcases h1 with ⟨h0, _⟩ | ⟨p, h0, rfl, h2, h3⟩
            · cases h0
            · exact Ends.row (rowF_free _) (.inr rfl) h2 h3 hlow hh hE
          · cases hx
        · cases hx
      · cases hx
    · cases hx
  · cases hx
end Go.Proofs.Vf
