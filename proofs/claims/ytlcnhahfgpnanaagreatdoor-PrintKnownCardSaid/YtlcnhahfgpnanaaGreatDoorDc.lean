/-
  PROVED HERE: contracts of functions (Dc). No condition beside each statement's own.
-/
import Derived.Test.YtlcnhahfgpnanaaGreatDoorDa
import Derived.Test.YtlcnhahfgpnanaaGreatDoorSxb
import Derived.Test.YtlcnhahfgpnanaaGreatDoorDb
import Derived.Test.YtlcnhahfgpnanaaGreatDoorProg
set_option linter.unusedVariables false
set_option linter.unusedSimpArgs false
namespace Go.Proofs.Lx
open Go AEv Go.Proofs Lexp
set_option maxRecDepth 100000
set_option maxHeartbeats 1000000

/-! ### Tables; calls that are told -/
def asciiL : List Nat := [0, 0, 0, 0, 0, 0, 0, 0, 0, 1, 1, 1, 1, 1, 0, 0, 0, 0, 0, 0, 0, 0, 0, 0, 0, 0, 0, 0, 0, 0, 0, 0, 1, 0, 0, 0, 0, 0, 0, 0, 0, 0, 0, 0, 0, 0, 0, 0, 0, 0, 0, 0, 0, 0, 0, 0, 0, 0, 0, 0, 0, 0, 0, 0, 0, 0, 0, 0, 0, 0, 0, 0, 0, 0, 0, 0, 0, 0, 0, 0, 0, 0, 0, 0, 0, 0, 0, 0, 0, 0, 0, 0, 0, 0, 0, 0, 0, 0, 0, 0, 0, 0, 0, 0, 0, 0, 0, 0, 0, 0, 0, 0, 0, 0, 0, 0, 0, 0, 0, 0, 0, 0, 0, 0, 0, 0, 0, 0, 0, 0, 0, 0, 0, 0, 0, 0, 0, 0, 0, 0, 0, 0, 0, 0, 0, 0, 0, 0, 0, 0, 0, 0, 0, 0, 0, 0, 0, 0, 0, 0, 0, 0, 0, 0, 0, 0, 0, 0, 0, 0, 0, 0, 0, 0, 0, 0, 0, 0, 0, 0, 0, 0, 0, 0, 0, 0, 0, 0, 0, 0, 0, 0, 0, 0, 0, 0, 0, 0, 0, 0, 0, 0, 0, 0, 0, 0, 0, 0, 0, 0, 0, 0, 0, 0, 0, 0, 0, 0, 0, 0, 0, 0, 0, 0, 0, 0, 0, 0, 0, 0, 0, 0, 0, 0, 0, 0, 0, 0, 0, 0, 0, 0, 0, 0, 0, 0, 0, 0, 0, 0, 0, 0, 0, 0, 0, 0]
def firstL : List Nat := [240, 240, 240, 240, 240, 240, 240, 240, 240, 240, 240, 240, 240, 240, 240, 240, 240, 240, 240, 240, 240, 240, 240, 240, 240, 240, 240, 240, 240, 240, 240, 240, 240, 240, 240, 240, 240, 240, 240, 240, 240, 240, 240, 240, 240, 240, 240, 240, 240, 240, 240, 240, 240, 240, 240, 240, 240, 240, 240, 240, 240, 240, 240, 240, 240, 240, 240, 240, 240, 240, 240, 240, 240, 240, 240, 240, 240, 240, 240, 240, 240, 240, 240, 240, 240, 240, 240, 240, 240, 240, 240, 240, 240, 240, 240, 240, 240, 240, 240, 240, 240, 240, 240, 240, 240, 240, 240, 240, 240, 240, 240, 240, 240, 240, 240, 240, 240, 240, 240, 240, 240, 240, 240, 240, 240, 240, 240, 240, 241, 241, 241, 241, 241, 241, 241, 241, 241, 241, 241, 241, 241, 241, 241, 241, 241, 241, 241, 241, 241, 241, 241, 241, 241, 241, 241, 241, 241, 241, 241, 241, 241, 241, 241, 241, 241, 241, 241, 241, 241, 241, 241, 241, 241, 241, 241, 241, 241, 241, 241, 241, 241, 241, 241, 241, 241, 241, 241, 241, 241, 241, 241, 241, 241, 241, 2, 2, 2, 2, 2, 2, 2, 2, 2, 2, 2, 2, 2, 2, 2, 2, 2, 2, 2, 2, 2, 2, 2, 2, 2, 2, 2, 2, 2, 2, 19, 3, 3, 3, 3, 3, 3, 3, 3, 3, 3, 3, 3, 35, 3, 3, 52, 4, 4, 4, 68, 241, 241, 241, 241, 241, 241, 241, 241, 241, 241, 241]
def acceptL : List Nat := [128, 191, 160, 191, 128, 159, 144, 191, 128, 143, 0, 0, 0, 0, 0, 0, 0, 0, 0, 0, 0, 0, 0, 0, 0, 0, 0, 0, 0, 0, 0, 0]
def tabs : List Tab := [⟨0, asciiL⟩, ⟨2, firstL⟩, ⟨3, acceptL⟩]
theorem tabs_lt : ∀ t ∈ tabs, t.g < Tryz.prog.globals.size := fun t ht => by
  have h4 : Nat.ble 9 Tryz.prog.globals.size = true := by kernel_rfl
  have h4' := Nat.le_of_ble_eq_true h4
  have hlt : t.g < 9 := by
    simp only [tabs, List.mem_cons, List.not_mem_nil, or_false] at ht
    rcases ht with rfl | rfl | rfl <;> decide
  omega
noncomputable def H0 (els : Nat → Nat) : AHeap := heapT Tryz.prog.globals.size els tabs []
noncomputable def R0 (f : Nat) : FRes := callN Tryz.prog (tabIntrT tabs []) 60 (.fn f) [] (H0 fun _ => 0)
noncomputable def Rl : List EntR := [⟨68, [], R0 68⟩, ⟨69, [], R0 69⟩]
def Wl : List Ent := []
noncomputable def Il : Nat → List AV → AHeap → Option (AV × AHeap) := orE (tabIntrT tabs Wl) (intrR Tryz.prog.globals.size tabs Rl)
noncomputable def C (n : Nat) : CallT → List AV → AHeap → FRes := callN Tryz.prog Il n
theorem int0_ok (hf : Fit Tryz.prog) : IntrOK Tryz.prog (tabIntrT tabs []) := tabT_ok hf tabs_lt (by simp)
theorem Rl_ok (hf : Fit Tryz.prog) : ∀ e ∈ Rl, EntROK Tryz.prog tabs e := fun e he => by
  simp only [Rl, List.mem_cons, List.not_mem_nil, or_false] at he
  rcases he with rfl | rfl
  · exact ⟨tabIntrT tabs [], 60, int0_ok hf, rfl, fun els => by kernel_rfl⟩
  · exact ⟨tabIntrT tabs [], 60, int0_ok hf, rfl, fun els => by kernel_rfl⟩
def keysOK : List AEnt → List (List UInt8) → Bool
  | [], [] => true
  | ⟨.str k, .bool true, _⟩ :: es, w :: ws => match beqBytes k w with
    | true => keysOK es ws
    | false => false
  | _, _ => false
theorem bb_comm (a b : List UInt8) : beqBytes a b = beqBytes b a := by
  rw [beqBytes_eq, beqBytes_eq, Bool.eq_iff_iff, beq_iff_eq, beq_iff_eq]; exact eq_comm
theorem find_keys {P : Program} {h0 : AHeap} {kt : TypeId} (s : List UInt8) : ∀ (es : List AEnt) (ws : List (List UInt8)) (i : Nat), keysOK es ws = true → findA P h0 kt (.str s) es i = some none ∧ (ws.any fun w => beqBytes w s) = false ∨ (∃ j, findA P h0 kt (.str s) es i = some (some (j, .bool true))) ∧ (ws.any fun w => beqBytes w s) = true
  | [], [], i, _ => .inl ⟨rfl, rfl⟩
  | e :: es, [], i, h => by
    obtain ⟨k, v, b⟩ := e
    cases k <;> cases v <;> (try (rename_i x; cases x)) <;> simp [keysOK] at h
  | [], w :: ws, i, h => by simp [keysOK] at h
  | ⟨k, v, b⟩ :: es, w :: ws, i, h => by
    unfold keysOK at h
    split at h
    · rename_i he; cases he
    · rename_i k' b' es' w' ws' h1 h2
      cases h1; cases h2
      split at h
      · rename_i hk
        have hkw : k' = w := by rw [beqBytes_eq] at hk; exact beq_iff_eq.1 hk
        subst hkw
        have hs : sameA (.str s) (.str k') = some (beqBytes s k') := rfl
        cases hx : beqBytes s k' with
        | true =>
          refine .inr ⟨⟨i, ?_⟩, ?_⟩
          · simp only [findA, sameK, hs, hx]
          · rw [List.any_cons, bb_comm, hx]; rfl
        | false =>
          have := find_keys (P := P) (h0 := h0) (kt := kt) s es ws (i + 1) h
          rw [List.any_cons, bb_comm k' s, hx, Bool.false_or]
          simp only [findA, sameK, hs, hx]
          exact this
      · cases h
    · cases h

theorem keysOK_ren (G n : Nat) : ∀ (es : List AEnt) (ws : List (List UInt8)), keysOK es ws = true → keysOK (es.map (renE G n)) ws = true
  | [], [], _ => rfl
  | [], _ :: _, h => by simp [keysOK] at h
  | e :: es, [], h => by
    obtain ⟨k, v, b⟩ := e
    cases k <;> cases v <;> (try (rename_i x; cases x)) <;> simp [keysOK] at h
  | ⟨k, v, b⟩ :: es, w :: ws, h => by
    unfold keysOK at h
    split at h
    · rename_i he; cases he
    · rename_i k' b' es' w' ws' h1 h2
      cases h1; cases h2
      split at h
      · rename_i hk
        have ih := keysOK_ren G n es ws h
        show keysOK (⟨.str k', .bool true, b⟩ :: es.map (renE G n)) (w :: ws) = true
        simp only [keysOK, hk]
        exact ih
      · cases h
    · cases h
/-- Words that are reserved. -/
def WordsAt (h : AHeap) (r : Nat) : Prop := ∃ es c, h.get r = some (.map es c) ∧ keysOK es words = true
noncomputable def okR : FRes → Bool
  | .ret (.map r) h => match h.get r with
    | some (.map es _) => match keysOK es words with
      | true => match Nat.ble Tryz.prog.globals.size r with
        | true => Nat.blt r h.n
        | false => false
      | false => false
    | _ => false
  | _ => false
theorem okR_spec {x : FRes} (h : okR x = true) : ∃ r g es c, x = .ret (.map r) g ∧ g.get r = some (.map es c) ∧ keysOK es words = true ∧ Tryz.prog.globals.size ≤ r ∧ r < g.n := by
  unfold okR at h
  split at h
  · rename_i r g
    split at h
    · rename_i es c hg
      split at h
      · rename_i hk
        split at h
        · rename_i hn
          exact ⟨r, g, es, c, rfl, hg, hk, Nat.le_of_ble_eq_true hn, by simpa [Nat.blt_eq] using h⟩
        · cases h
      · cases h
    · cases h
  · cases h
theorem res_run : okR (R0 68) = true := by kernel_rfl
theorem reserved_c (m : Nat) (h : AHeap) (ht : tabsIn h tabs = true) : ∃ r g, C (m + 1) (.fn 68) [] h = .ret (.map r) g ∧ WordsAt g r ∧ Ext h.n h g ∧ h.n ≤ r ∧ r < g.n := by
  obtain ⟨r, g, es, c, h1, h2, h3, h4, h5⟩ := okR_spec res_run
  have hb : Nat.blt r Tryz.prog.globals.size = false := by
    cases hx : Nat.blt r Tryz.prog.globals.size with
    | false => rfl
    | true => rw [Nat.blt_eq] at hx; omega
  have hi : Il 68 [] h = some (renV Tryz.prog.globals.size h.n (.map r), graft Tryz.prog.globals.size h.n g h (g.n - Tryz.prog.globals.size)) := by
    have e1 : tabIntrT tabs Wl 68 [] h = none := rfl
    have e2 : intrR Tryz.prog.globals.size tabs Rl 68 [] h = (match tabsIn h tabs with
      | true => match R0 68 with
        | .ret v H => some (renV Tryz.prog.globals.size h.n v, graft Tryz.prog.globals.size h.n H h (H.n - Tryz.prog.globals.size))
        | _ => none
      | false => none) := rfl
    simp only [Il, orE, e1, e2, ht, h1]
  have hr : renV Tryz.prog.globals.size h.n (.map r) = .map (r - Tryz.prog.globals.size + h.n) := by simp only [renV, hb]
  rw [hr] at hi
  refine ⟨r - Tryz.prog.globals.size + h.n, graft Tryz.prog.globals.size h.n g h (g.n - Tryz.prog.globals.size), by simp only [C, callN, hi], ⟨es.map (renE Tryz.prog.globals.size h.n), c, ?_, keysOK_ren _ _ _ _ h3⟩, ⟨by rw [graft_n]; omega, fun b hb' => by rw [graft_get, if_pos hb']⟩, by omega, by rw [graft_n]; omega⟩
  rw [graft_get, if_neg (by omega), if_pos (by omega)]
  have e : Tryz.prog.globals.size + (r - Tryz.prog.globals.size + h.n - h.n) = r := by omega
  rw [e, h2]; rfl
/-- The signs, one behind the other. -/
def SignsAt (h : AHeap) (b : Nat) : Prop := ∃ el k lo hi, h.get b = some (.cells (signs.map .str) el k lo hi)
def eqStrs : List AV → List (List UInt8) → Bool
  | [], [] => true
  | .str s :: l, t :: ts => match beqBytes s t with
    | true => eqStrs l ts
    | false => false
  | _, _ => false
theorem eqStrs_eq : ∀ (l : List AV) (ts : List (List UInt8)), eqStrs l ts = true → l = ts.map .str
  | [], [], _ => rfl
  | [], _ :: _, h => by simp [eqStrs] at h
  | v :: l, [], h => by cases v <;> simp [eqStrs] at h
  | v :: l, t :: ts, h => by
    cases v <;> simp only [eqStrs] at h <;> (try (cases h; done))
    split at h
    · rename_i hb
      rw [beqBytes_eq] at hb
      rw [eqStrs_eq l ts h, List.map_cons, beq_iff_eq.1 hb]
    · cases h
noncomputable def okG : FRes → Bool
  | .ret (.slice b 0 17 (.exact 17)) h => match h.get b with
    | some (.cells cs _ _ _ _) => match eqStrs cs signs with
      | true => match Nat.ble Tryz.prog.globals.size b with
        | true => Nat.blt b h.n
        | false => false
      | false => false
    | _ => false
  | _ => false
theorem okG_spec {x : FRes} (h : okG x = true) : ∃ b g el k lo hi, x = .ret (.slice b 0 17 (.exact 17)) g ∧ g.get b = some (.cells (signs.map .str) el k lo hi) ∧ Tryz.prog.globals.size ≤ b ∧ b < g.n := by
  unfold okG at h
  split at h
  · rename_i b g
    split at h
    · rename_i cs el k lo hi hg
      split at h
      · rename_i hk
        split at h
        · rename_i hn
          exact ⟨b, g, el, k, lo, hi, rfl, by rw [hg, eqStrs_eq _ _ hk], Nat.le_of_ble_eq_true hn, by simpa [Nat.blt_eq] using h⟩
        · cases h
      · cases h
    · cases h
  · cases h
theorem sig_run : okG (R0 69) = true := by kernel_rfl
theorem ren_strs (G n : Nat) : ∀ ts : List (List UInt8), renVs G n (ts.map .str) = ts.map .str
  | [] => rfl
  | t :: ts => by simp only [List.map_cons, renVs, renV, ren_strs G n ts]
theorem signs_c (m : Nat) (h : AHeap) (ht : tabsIn h tabs = true) : ∃ b g, C (m + 1) (.fn 69) [] h = .ret (.slice b 0 17 (.exact 17)) g ∧ SignsAt g b ∧ Ext h.n h g ∧ h.n ≤ b ∧ b < g.n := by
  obtain ⟨r, g, el, k, lo, hi', h1, h2, h4, h5⟩ := okG_spec sig_run
  have hb : Nat.blt r Tryz.prog.globals.size = false := by
    cases hx : Nat.blt r Tryz.prog.globals.size with
    | false => rfl
    | true => rw [Nat.blt_eq] at hx; omega
  have hi : Il 69 [] h = some (renV Tryz.prog.globals.size h.n (.slice r 0 17 (.exact 17)), graft Tryz.prog.globals.size h.n g h (g.n - Tryz.prog.globals.size)) := by
    have e1 : tabIntrT tabs Wl 69 [] h = none := rfl
    have e2 : intrR Tryz.prog.globals.size tabs Rl 69 [] h = (match tabsIn h tabs with
      | true => match R0 69 with
        | .ret v H => some (renV Tryz.prog.globals.size h.n v, graft Tryz.prog.globals.size h.n H h (H.n - Tryz.prog.globals.size))
        | _ => none
      | false => none) := rfl
    simp only [Il, orE, e1, e2, ht, h1]
  have hr : renV Tryz.prog.globals.size h.n (.slice r 0 17 (.exact 17)) = .slice (r - Tryz.prog.globals.size + h.n) 0 17 (.exact 17) := by simp only [renV, hb]
  rw [hr] at hi
  refine ⟨r - Tryz.prog.globals.size + h.n, graft Tryz.prog.globals.size h.n g h (g.n - Tryz.prog.globals.size), by simp only [C, callN, hi], ⟨el, k, lo, hi', ?_⟩, ⟨by rw [graft_n]; omega, fun b hb' => by rw [graft_get, if_pos hb']⟩, by omega, by rw [graft_n]; omega⟩
  rw [graft_get, if_neg (by omega), if_pos (by omega)]
  have e : Tryz.prog.globals.size + (r - Tryz.prog.globals.size + h.n - h.n) = r := by omega
  rw [e, h2, Option.bind_some]
  simp only [renO, ren_strs]
theorem tab_lt5 : ∀ t ∈ tabs, t.g < 9 := fun t ht => by
  simp only [tabs, List.mem_cons, List.not_mem_nil, or_false] at ht
  rcases ht with rfl | rfl | rfl <;> decide
theorem tabs_keep {h g : AHeap} (hi : tabsIn h tabs = true) (hk : ∀ b, b < 9 → g.get b = h.get b) : tabsIn g tabs = true := tabsIn_of fun t ht => by
  obtain ⟨el, hg⟩ := isTab_get (tabsIn_mem hi t ht)
  exact isTab_of ((hk t.g (tab_lt5 t ht)).trans hg)
end Go.Proofs.Lx

namespace Go.Proofs.Lx
open Go AEv Go.Proofs Lexp
set_option maxRecDepth 100000
set_option maxHeartbeats 1000000

theorem dr1_1 (call : CallT → List AV → AHeap → FRes) (b : UInt8) (s : List UInt8) (h : AHeap) (n_1 n_2 : Nat)
    (H1 : idxS 0 (b :: s) = some (.int .u8 (.ofNat n_1)))
    (H2 : ltI (.ofNat n_1) (.ofNat 128) = true)
    (H3 : evConvert Tryz.prog 5 21 (AV.int IntKind.u8 (Int.ofNat n_1)) h = OpRes.val (AV.int IntKind.i32 (Int.ofNat n_2)) h) :
    RunF Tryz.prog Tryz.f145 none call [] (SSt.mk [(0, .str (b :: s))] [] .none h) (.ret)
      (SSt.mk [(2, .int .i32 (.ofNat n_2)), (3, .int .i64 (.ofNat 1))] [] .none h) :=
  sxF_run [2, 3] (hs := [.b true, .b true, .v (.int .u8 (.ofNat n_1)), .b true, .b true, .b true, .v (.int .u8 (.ofNat n_1)), .v (.int .i32 (.ofNat n_2))]) (by kernel_rfl) <| .cons (by kernel_rfl : (!beqBytes (b :: s) []) = true) <| .cons (by kernel_rfl : (!beqBytes (b :: s) []) = true) <| .cons H1 <| .cons (by kernel_rfl : (!beqBytes (b :: s) []) = true) <| .cons (by kernel_rfl : (!beqBytes (b :: s) []) = true) <| .cons H2 <| .cons H1 <| .cons H3 <| .nil
theorem dr1_2 (call : CallT → List AV → AHeap → FRes) (b : UInt8) (s : List UInt8) (h : AHeap) (n_1 n_2 n_3 : Nat) (g_1 : AHeap)
    (H1 : idxS 0 (b :: s) = some (.int .u8 (.ofNat n_1)))
    (H2 : ltI (.ofNat n_1) (.ofNat 128) = false)
    (H3 : call (.fn 174) [.str (b :: s)] h = FRes.ret (.tup [.int .i32 (.ofNat n_2), .int .i64 (.ofNat n_3)]) g_1) :
    RunF Tryz.prog Tryz.f145 none call [] (SSt.mk [(0, .str (b :: s))] [] .none h) (.ret)
      (SSt.mk [(2, .int .i32 (.ofNat n_2)), (3, .int .i64 (.ofNat n_3))] [] .none g_1) :=
  sxF_run [2, 3] (hs := [.b true, .b true, .v (.int .u8 (.ofNat n_1)), .b true, .b true, .b false, .c (.tup [.int .i32 (.ofNat n_2), .int .i64 (.ofNat n_3)]) g_1]) (by kernel_rfl) <| .cons (by kernel_rfl : (!beqBytes (b :: s) []) = true) <| .cons (by kernel_rfl : (!beqBytes (b :: s) []) = true) <| .cons H1 <| .cons (by kernel_rfl : (!beqBytes (b :: s) []) = true) <| .cons (by kernel_rfl : (!beqBytes (b :: s) []) = true) <| .cons H2 <| .cons H3 <| .nil
theorem dsb (call : CallT → List AV → AHeap → FRes) (b n : Nat) (s : List UInt8) (h : AHeap) (n_1 : Nat)
    (H1 : ltI (.ofNat (List.length s)) (.ofNat 1) = false)
    (H2 : idxS 0 s = some (.int .u8 (.ofNat b)))
    (H3 : Nat.le (Nat.succ b) 256)
    (H4 : load1 h 2 (0 + b * 1) = some (.int .u8 (.ofNat 241)))
    (H5 : evConvert Tryz.prog 5 21 (AV.int IntKind.u8 (Int.ofNat b)) h = OpRes.val (AV.int IntKind.i32 (Int.ofNat n_1)) h)
    (H6 : arith .andNot .i32 (.ofNat n_1) (.negSucc 0) = some (.int .i32 (.ofNat 0))) :
    RunF Tryz.prog Tryz.f174 none call [] (SSt.mk [(0, .str s)] [] .none h) (.ret)
      (SSt.mk [(2, .int .i32 (.ofNat 65533)), (3, .int .i64 (.ofNat 1))] [] .none h) :=
  sxF_run [2, 3] (hs := [.b false, .v (.int .u8 (.ofNat b)), .v (.ptr 2 (0 + b * 1)), .v (.int .u8 (.ofNat 241)), .b true, .v (.int .i32 (.ofNat 241)), .v (.int .i32 (-2147483648)), .v (.int .i32 (-1)), .v (.int .u8 (.ofNat b)), .v (.int .i32 (.ofNat n_1)), .v (.int .i32 (.ofNat 0)), .v (.int .i32 (.ofNat 65533)), .v (.int .i32 (.ofNat 65533))]) (by kernel_rfl) <| .cons H1 <| .cons H2 <| .cons (⟨H3, rfl⟩ : Nat.le (Nat.succ b) 256 ∧ AV.ptr 2 (0 + b * 1) = AV.ptr 2 (0 + b * 1)) <| .cons H4 <| .cons (by kernel_rfl : leI (Int.ofNat 240) (Int.ofNat 241) = true) <| .cons (by kernel_rfl : evConvert Tryz.prog 5 21 (AV.int IntKind.u8 (Int.ofNat 241)) h = OpRes.val (AV.int IntKind.i32 (Int.ofNat 241)) h) <| .cons (by kernel_rfl : shiftA BinOp.shl IntKind.i32 (Int.ofNat 241) (Int.ofNat 31) = some (AV.int IntKind.i32 (Int.negSucc 2147483647))) <| .cons (by kernel_rfl : shiftA BinOp.shr IntKind.i32 (Int.negSucc 2147483647) (Int.ofNat 31) = some (AV.int IntKind.i32 (Int.negSucc 0))) <| .cons H2 <| .cons H5 <| .cons H6 <| .cons (by kernel_rfl : arith BinOp.and IntKind.i32 (Int.ofNat 65533) (Int.negSucc 0) = some (AV.int IntKind.i32 (Int.ofNat 65533))) <| .cons (by kernel_rfl : arith BinOp.or IntKind.i32 (Int.ofNat 0) (Int.ofNat 65533) = some (AV.int IntKind.i32 (Int.ofNat 65533))) <| .nil
theorem dsl_1 (call : CallT → List AV → AHeap → FRes) (b x lo hi : Nat) (s : List UInt8) (h : AHeap) (n_1 n_2 n_3 : Nat) (g_1 : AHeap)
    (H1 : ltI (.ofNat (List.length s)) (.ofNat 1) = false)
    (H2 : idxS 0 s = some (.int .u8 (.ofNat b)))
    (H3 : Nat.le (Nat.succ b) 256)
    (H4 : load1 h 2 (0 + b * 1) = some (.int .u8 (.ofNat x)))
    (H5 : leI (.ofNat 240) (.ofNat x) = false)
    (H6 : arith .and .u8 (.ofNat x) (.ofNat 7) = some (.int .u8 (.ofNat n_1)))
    (H7 : evConvert Tryz.prog 5 3 (AV.int IntKind.u8 (Int.ofNat n_1)) h = OpRes.val (AV.int IntKind.i64 (Int.ofNat n_2)) h)
    (H8 : shiftA .shr .u8 (.ofNat x) (.ofNat 4) = some (.int .u8 (.ofNat n_3)))
    (H9 : Nat.le (Nat.succ n_3) 16)
    (H10 : AEv.loadCells h 3 (0 + n_3 * 2) 2 = some [.int .u8 (.ofNat lo), .int .u8 (.ofNat hi)])
    (H11 : AEv.storeCells (AHeap.push h (.cells [.int .u8 (.ofNat 0), .int .u8 (.ofNat 0)] 250 .own 0 0)) (AHeap.n h) 0 [.int .u8 (.ofNat lo), .int .u8 (.ofNat hi)] = some g_1)
    (H12 : ltI (.ofNat (List.length s)) (.ofNat n_2) = true) :
    RunF Tryz.prog Tryz.f174 none call [] (SSt.mk [(0, .str s)] [] .none h) (.ret)
      (SSt.mk [(2, .int .i32 (.ofNat 65533)), (3, .int .i64 (.ofNat 1))] [] .none g_1) :=
  sxF_run [2, 3] (hs := [.b false, .v (.int .u8 (.ofNat b)), .v (.ptr 2 (0 + b * 1)), .v (.int .u8 (.ofNat x)), .b false, .v (.int .u8 (.ofNat n_1)), .v (.int .i64 (.ofNat n_2)), .v (.int .u8 (.ofNat n_3)), .v (.ptr 3 (0 + n_3 * 2)), .v (.agg [.int .u8 (.ofNat lo), .int .u8 (.ofNat hi)]), .vh (.tup []) g_1, .b true]) (by kernel_rfl) <| .cons H1 <| .cons H2 <| .cons (⟨H3, rfl⟩ : Nat.le (Nat.succ b) 256 ∧ AV.ptr 2 (0 + b * 1) = AV.ptr 2 (0 + b * 1)) <| .cons H4 <| .cons H5 <| .cons H6 <| .cons H7 <| .cons H8 <| .cons (⟨H9, rfl⟩ : Nat.le (Nat.succ n_3) 16 ∧ AV.ptr 3 (0 + n_3 * 2) = AV.ptr 3 (0 + n_3 * 2)) <| .cons H10 <| .cons (⟨by kernel_rfl, H11, rfl⟩ : some 2 = some 2 ∧ AEv.storeCells (AHeap.push h (AObj.cells [AV.int IntKind.u8 (Int.ofNat 0), AV.int IntKind.u8 (Int.ofNat 0)] 250 BK.own 0 0)) (AHeap.n h) 0 [AV.int IntKind.u8 (Int.ofNat lo), AV.int IntKind.u8 (Int.ofNat hi)] = some g_1 ∧ AV.tup [] = AV.tup []) <| .cons H12 <| .nil
theorem dsl_2 (call : CallT → List AV → AHeap → FRes) (b x lo hi : Nat) (s : List UInt8) (h : AHeap) (n_1 n_2 n_3 : Nat) (g_1 : AHeap) (n_4 n_5 : Nat)
    (H1 : ltI (.ofNat (List.length s)) (.ofNat 1) = false)
    (H2 : idxS 0 s = some (.int .u8 (.ofNat b)))
    (H3 : Nat.le (Nat.succ b) 256)
    (H4 : load1 h 2 (0 + b * 1) = some (.int .u8 (.ofNat x)))
    (H5 : leI (.ofNat 240) (.ofNat x) = false)
    (H6 : arith .and .u8 (.ofNat x) (.ofNat 7) = some (.int .u8 (.ofNat n_1)))
    (H7 : evConvert Tryz.prog 5 3 (AV.int IntKind.u8 (Int.ofNat n_1)) h = OpRes.val (AV.int IntKind.i64 (Int.ofNat n_2)) h)
    (H8 : shiftA .shr .u8 (.ofNat x) (.ofNat 4) = some (.int .u8 (.ofNat n_3)))
    (H9 : Nat.le (Nat.succ n_3) 16)
    (H10 : AEv.loadCells h 3 (0 + n_3 * 2) 2 = some [.int .u8 (.ofNat lo), .int .u8 (.ofNat hi)])
    (H11 : AEv.storeCells (AHeap.push h (.cells [.int .u8 (.ofNat 0), .int .u8 (.ofNat 0)] 250 .own 0 0)) (AHeap.n h) 0 [.int .u8 (.ofNat lo), .int .u8 (.ofNat hi)] = some g_1)
    (H12 : ltI (.ofNat (List.length s)) (.ofNat n_2) = false)
    (H13 : idxS 1 s = some (.int .u8 (.ofNat n_4)))
    (H14 : load1 g_1 (AHeap.n h) (0 + 0) = some (.int .u8 (.ofNat n_5)))
    (H15 : ltI (.ofNat n_4) (.ofNat n_5) = true) :
    RunF Tryz.prog Tryz.f174 none call [] (SSt.mk [(0, .str s)] [] .none h) (.ret)
      (SSt.mk [(2, .int .i32 (.ofNat 65533)), (3, .int .i64 (.ofNat 1))] [] .none g_1) :=
  sxF_run [2, 3] (hs := [.b false, .v (.int .u8 (.ofNat b)), .v (.ptr 2 (0 + b * 1)), .v (.int .u8 (.ofNat x)), .b false, .v (.int .u8 (.ofNat n_1)), .v (.int .i64 (.ofNat n_2)), .v (.int .u8 (.ofNat n_3)), .v (.ptr 3 (0 + n_3 * 2)), .v (.agg [.int .u8 (.ofNat lo), .int .u8 (.ofNat hi)]), .vh (.tup []) g_1, .b false, .v (.int .u8 (.ofNat n_4)), .v (.int .u8 (.ofNat n_5)), .b true, .b true, .b true, .b true, .b true, .b true]) (by kernel_rfl) <| .cons H1 <| .cons H2 <| .cons (⟨H3, rfl⟩ : Nat.le (Nat.succ b) 256 ∧ AV.ptr 2 (0 + b * 1) = AV.ptr 2 (0 + b * 1)) <| .cons H4 <| .cons H5 <| .cons H6 <| .cons H7 <| .cons H8 <| .cons (⟨H9, rfl⟩ : Nat.le (Nat.succ n_3) 16 ∧ AV.ptr 3 (0 + n_3 * 2) = AV.ptr 3 (0 + n_3 * 2)) <| .cons H10 <| .cons (⟨by kernel_rfl, H11, rfl⟩ : some 2 = some 2 ∧ AEv.storeCells (AHeap.push h (AObj.cells [AV.int IntKind.u8 (Int.ofNat 0), AV.int IntKind.u8 (Int.ofNat 0)] 250 BK.own 0 0)) (AHeap.n h) 0 [AV.int IntKind.u8 (Int.ofNat lo), AV.int IntKind.u8 (Int.ofNat hi)] = some g_1 ∧ AV.tup [] = AV.tup []) <| .cons H12 <| .cons H13 <| .cons H14 <| .cons H15 <| .cons H15 <| .cons H15 <| .cons H15 <| .cons H15 <| .cons (by kernel_rfl : true = true) <| .nil
theorem dsl_3 (call : CallT → List AV → AHeap → FRes) (b x lo hi : Nat) (s : List UInt8) (h : AHeap) (n_1 n_2 n_3 : Nat) (g_1 : AHeap) (n_4 n_5 n_6 : Nat)
    (H1 : ltI (.ofNat (List.length s)) (.ofNat 1) = false)
    (H2 : idxS 0 s = some (.int .u8 (.ofNat b)))
    (H3 : Nat.le (Nat.succ b) 256)
    (H4 : load1 h 2 (0 + b * 1) = some (.int .u8 (.ofNat x)))
    (H5 : leI (.ofNat 240) (.ofNat x) = false)
    (H6 : arith .and .u8 (.ofNat x) (.ofNat 7) = some (.int .u8 (.ofNat n_1)))
    (H7 : evConvert Tryz.prog 5 3 (AV.int IntKind.u8 (Int.ofNat n_1)) h = OpRes.val (AV.int IntKind.i64 (Int.ofNat n_2)) h)
    (H8 : shiftA .shr .u8 (.ofNat x) (.ofNat 4) = some (.int .u8 (.ofNat n_3)))
    (H9 : Nat.le (Nat.succ n_3) 16)
    (H10 : AEv.loadCells h 3 (0 + n_3 * 2) 2 = some [.int .u8 (.ofNat lo), .int .u8 (.ofNat hi)])
    (H11 : AEv.storeCells (AHeap.push h (.cells [.int .u8 (.ofNat 0), .int .u8 (.ofNat 0)] 250 .own 0 0)) (AHeap.n h) 0 [.int .u8 (.ofNat lo), .int .u8 (.ofNat hi)] = some g_1)
    (H12 : ltI (.ofNat (List.length s)) (.ofNat n_2) = false)
    (H13 : idxS 1 s = some (.int .u8 (.ofNat n_4)))
    (H14 : load1 g_1 (AHeap.n h) (0 + 0) = some (.int .u8 (.ofNat n_5)))
    (H15 : ltI (.ofNat n_4) (.ofNat n_5) = false)
    (H16 : load1 g_1 (AHeap.n h) (0 + 1) = some (.int .u8 (.ofNat n_6)))
    (H17 : ltI (.ofNat n_6) (.ofNat n_4) = true) :
    RunF Tryz.prog Tryz.f174 none call [] (SSt.mk [(0, .str s)] [] .none h) (.ret)
      (SSt.mk [(2, .int .i32 (.ofNat 65533)), (3, .int .i64 (.ofNat 1))] [] .none g_1) :=
  sxF_run [2, 3] (hs := [.b false, .v (.int .u8 (.ofNat b)), .v (.ptr 2 (0 + b * 1)), .v (.int .u8 (.ofNat x)), .b false, .v (.int .u8 (.ofNat n_1)), .v (.int .i64 (.ofNat n_2)), .v (.int .u8 (.ofNat n_3)), .v (.ptr 3 (0 + n_3 * 2)), .v (.agg [.int .u8 (.ofNat lo), .int .u8 (.ofNat hi)]), .vh (.tup []) g_1, .b false, .v (.int .u8 (.ofNat n_4)), .v (.int .u8 (.ofNat n_5)), .b false, .b false, .v (.int .u8 (.ofNat n_6)), .b false, .b false, .b false, .b true]) (by kernel_rfl) <| .cons H1 <| .cons H2 <| .cons (⟨H3, rfl⟩ : Nat.le (Nat.succ b) 256 ∧ AV.ptr 2 (0 + b * 1) = AV.ptr 2 (0 + b * 1)) <| .cons H4 <| .cons H5 <| .cons H6 <| .cons H7 <| .cons H8 <| .cons (⟨H9, rfl⟩ : Nat.le (Nat.succ n_3) 16 ∧ AV.ptr 3 (0 + n_3 * 2) = AV.ptr 3 (0 + n_3 * 2)) <| .cons H10 <| .cons (⟨by kernel_rfl, H11, rfl⟩ : some 2 = some 2 ∧ AEv.storeCells (AHeap.push h (AObj.cells [AV.int IntKind.u8 (Int.ofNat 0), AV.int IntKind.u8 (Int.ofNat 0)] 250 BK.own 0 0)) (AHeap.n h) 0 [AV.int IntKind.u8 (Int.ofNat lo), AV.int IntKind.u8 (Int.ofNat hi)] = some g_1 ∧ AV.tup [] = AV.tup []) <| .cons H12 <| .cons H13 <| .cons H14 <| .cons H15 <| .cons H15 <| .cons H16 <| .cons H15 <| .cons H15 <| .cons H15 <| .cons H17 <| .nil
theorem dsl_4 (call : CallT → List AV → AHeap → FRes) (b x lo hi : Nat) (s : List UInt8) (h : AHeap) (n_1 n_2 n_3 : Nat) (g_1 : AHeap) (n_4 n_5 n_6 n_7 n_8 n_9 n_10 n_11 n_12 : Nat)
    (H1 : ltI (.ofNat (List.length s)) (.ofNat 1) = false)
    (H2 : idxS 0 s = some (.int .u8 (.ofNat b)))
    (H3 : Nat.le (Nat.succ b) 256)
    (H4 : load1 h 2 (0 + b * 1) = some (.int .u8 (.ofNat x)))
    (H5 : leI (.ofNat 240) (.ofNat x) = false)
    (H6 : arith .and .u8 (.ofNat x) (.ofNat 7) = some (.int .u8 (.ofNat n_1)))
    (H7 : evConvert Tryz.prog 5 3 (AV.int IntKind.u8 (Int.ofNat n_1)) h = OpRes.val (AV.int IntKind.i64 (Int.ofNat n_2)) h)
    (H8 : shiftA .shr .u8 (.ofNat x) (.ofNat 4) = some (.int .u8 (.ofNat n_3)))
    (H9 : Nat.le (Nat.succ n_3) 16)
    (H10 : AEv.loadCells h 3 (0 + n_3 * 2) 2 = some [.int .u8 (.ofNat lo), .int .u8 (.ofNat hi)])
    (H11 : AEv.storeCells (AHeap.push h (.cells [.int .u8 (.ofNat 0), .int .u8 (.ofNat 0)] 250 .own 0 0)) (AHeap.n h) 0 [.int .u8 (.ofNat lo), .int .u8 (.ofNat hi)] = some g_1)
    (H12 : ltI (.ofNat (List.length s)) (.ofNat n_2) = false)
    (H13 : idxS 1 s = some (.int .u8 (.ofNat n_4)))
    (H14 : load1 g_1 (AHeap.n h) (0 + 0) = some (.int .u8 (.ofNat n_5)))
    (H15 : ltI (.ofNat n_4) (.ofNat n_5) = false)
    (H16 : load1 g_1 (AHeap.n h) (0 + 1) = some (.int .u8 (.ofNat n_6)))
    (H17 : ltI (.ofNat n_6) (.ofNat n_4) = false)
    (H18 : leI (.ofNat n_2) (.ofNat 2) = true)
    (H19 : arith .and .u8 (.ofNat b) (.ofNat 31) = some (.int .u8 (.ofNat n_7)))
    (H20 : evConvert Tryz.prog 5 21 (AV.int IntKind.u8 (Int.ofNat n_7)) g_1 = OpRes.val (AV.int IntKind.i32 (Int.ofNat n_8)) g_1)
    (H21 : shiftA .shl .i32 (.ofNat n_8) (.ofNat 6) = some (.int .i32 (.ofNat n_9)))
    (H22 : arith .and .u8 (.ofNat n_4) (.ofNat 63) = some (.int .u8 (.ofNat n_10)))
    (H23 : evConvert Tryz.prog 5 21 (AV.int IntKind.u8 (Int.ofNat n_10)) g_1 = OpRes.val (AV.int IntKind.i32 (Int.ofNat n_11)) g_1)
    (H24 : arith .or .i32 (.ofNat n_9) (.ofNat n_11) = some (.int .i32 (.ofNat n_12))) :
    RunF Tryz.prog Tryz.f174 none call [] (SSt.mk [(0, .str s)] [] .none h) (.ret)
      (SSt.mk [(2, .int .i32 (.ofNat n_12)), (3, .int .i64 (.ofNat 2))] [] .none g_1) :=
  sxF_run [2, 3] (hs := [.b false, .v (.int .u8 (.ofNat b)), .v (.ptr 2 (0 + b * 1)), .v (.int .u8 (.ofNat x)), .b false, .v (.int .u8 (.ofNat n_1)), .v (.int .i64 (.ofNat n_2)), .v (.int .u8 (.ofNat n_3)), .v (.ptr 3 (0 + n_3 * 2)), .v (.agg [.int .u8 (.ofNat lo), .int .u8 (.ofNat hi)]), .vh (.tup []) g_1, .b false, .v (.int .u8 (.ofNat n_4)), .v (.int .u8 (.ofNat n_5)), .b false, .b false, .v (.int .u8 (.ofNat n_6)), .b false, .b false, .b false, .b false, .b true, .v (.int .u8 (.ofNat n_7)), .v (.int .i32 (.ofNat n_8)), .v (.int .i32 (.ofNat n_9)), .v (.int .u8 (.ofNat n_10)), .v (.int .i32 (.ofNat n_11)), .v (.int .i32 (.ofNat n_12))]) (by kernel_rfl) <| .cons H1 <| .cons H2 <| .cons (⟨H3, rfl⟩ : Nat.le (Nat.succ b) 256 ∧ AV.ptr 2 (0 + b * 1) = AV.ptr 2 (0 + b * 1)) <| .cons H4 <| .cons H5 <| .cons H6 <| .cons H7 <| .cons H8 <| .cons (⟨H9, rfl⟩ : Nat.le (Nat.succ n_3) 16 ∧ AV.ptr 3 (0 + n_3 * 2) = AV.ptr 3 (0 + n_3 * 2)) <| .cons H10 <| .cons (⟨by kernel_rfl, H11, rfl⟩ : some 2 = some 2 ∧ AEv.storeCells (AHeap.push h (AObj.cells [AV.int IntKind.u8 (Int.ofNat 0), AV.int IntKind.u8 (Int.ofNat 0)] 250 BK.own 0 0)) (AHeap.n h) 0 [AV.int IntKind.u8 (Int.ofNat lo), AV.int IntKind.u8 (Int.ofNat hi)] = some g_1 ∧ AV.tup [] = AV.tup []) <| .cons H12 <| .cons H13 <| .cons H14 <| .cons H15 <| .cons H15 <| .cons H16 <| .cons H15 <| .cons H15 <| .cons H15 <| .cons H17 <| .cons H18 <| .cons H19 <| .cons H20 <| .cons H21 <| .cons H22 <| .cons H23 <| .cons H24 <| .nil
theorem dsl_5 (call : CallT → List AV → AHeap → FRes) (b x lo hi : Nat) (s : List UInt8) (h : AHeap) (n_1 n_2 n_3 : Nat) (g_1 : AHeap) (n_4 n_5 n_6 n_7 : Nat)
    (H1 : ltI (.ofNat (List.length s)) (.ofNat 1) = false)
    (H2 : idxS 0 s = some (.int .u8 (.ofNat b)))
    (H3 : Nat.le (Nat.succ b) 256)
    (H4 : load1 h 2 (0 + b * 1) = some (.int .u8 (.ofNat x)))
    (H5 : leI (.ofNat 240) (.ofNat x) = false)
    (H6 : arith .and .u8 (.ofNat x) (.ofNat 7) = some (.int .u8 (.ofNat n_1)))
    (H7 : evConvert Tryz.prog 5 3 (AV.int IntKind.u8 (Int.ofNat n_1)) h = OpRes.val (AV.int IntKind.i64 (Int.ofNat n_2)) h)
    (H8 : shiftA .shr .u8 (.ofNat x) (.ofNat 4) = some (.int .u8 (.ofNat n_3)))
    (H9 : Nat.le (Nat.succ n_3) 16)
    (H10 : AEv.loadCells h 3 (0 + n_3 * 2) 2 = some [.int .u8 (.ofNat lo), .int .u8 (.ofNat hi)])
    (H11 : AEv.storeCells (AHeap.push h (.cells [.int .u8 (.ofNat 0), .int .u8 (.ofNat 0)] 250 .own 0 0)) (AHeap.n h) 0 [.int .u8 (.ofNat lo), .int .u8 (.ofNat hi)] = some g_1)
    (H12 : ltI (.ofNat (List.length s)) (.ofNat n_2) = false)
    (H13 : idxS 1 s = some (.int .u8 (.ofNat n_4)))
    (H14 : load1 g_1 (AHeap.n h) (0 + 0) = some (.int .u8 (.ofNat n_5)))
    (H15 : ltI (.ofNat n_4) (.ofNat n_5) = false)
    (H16 : load1 g_1 (AHeap.n h) (0 + 1) = some (.int .u8 (.ofNat n_6)))
    (H17 : ltI (.ofNat n_6) (.ofNat n_4) = false)
    (H18 : leI (.ofNat n_2) (.ofNat 2) = false)
    (H19 : idxS 2 s = some (.int .u8 (.ofNat n_7)))
    (H20 : ltI (.ofNat n_7) (.ofNat 128) = true) :
    RunF Tryz.prog Tryz.f174 none call [] (SSt.mk [(0, .str s)] [] .none h) (.ret)
      (SSt.mk [(2, .int .i32 (.ofNat 65533)), (3, .int .i64 (.ofNat 1))] [] .none g_1) :=
  sxF_run [2, 3] (hs := [.b false, .v (.int .u8 (.ofNat b)), .v (.ptr 2 (0 + b * 1)), .v (.int .u8 (.ofNat x)), .b false, .v (.int .u8 (.ofNat n_1)), .v (.int .i64 (.ofNat n_2)), .v (.int .u8 (.ofNat n_3)), .v (.ptr 3 (0 + n_3 * 2)), .v (.agg [.int .u8 (.ofNat lo), .int .u8 (.ofNat hi)]), .vh (.tup []) g_1, .b false, .v (.int .u8 (.ofNat n_4)), .v (.int .u8 (.ofNat n_5)), .b false, .b false, .v (.int .u8 (.ofNat n_6)), .b false, .b false, .b false, .b false, .b false, .v (.int .u8 (.ofNat n_7)), .b true, .b true, .b true, .b true]) (by kernel_rfl) <| .cons H1 <| .cons H2 <| .cons (⟨H3, rfl⟩ : Nat.le (Nat.succ b) 256 ∧ AV.ptr 2 (0 + b * 1) = AV.ptr 2 (0 + b * 1)) <| .cons H4 <| .cons H5 <| .cons H6 <| .cons H7 <| .cons H8 <| .cons (⟨H9, rfl⟩ : Nat.le (Nat.succ n_3) 16 ∧ AV.ptr 3 (0 + n_3 * 2) = AV.ptr 3 (0 + n_3 * 2)) <| .cons H10 <| .cons (⟨by kernel_rfl, H11, rfl⟩ : some 2 = some 2 ∧ AEv.storeCells (AHeap.push h (AObj.cells [AV.int IntKind.u8 (Int.ofNat 0), AV.int IntKind.u8 (Int.ofNat 0)] 250 BK.own 0 0)) (AHeap.n h) 0 [AV.int IntKind.u8 (Int.ofNat lo), AV.int IntKind.u8 (Int.ofNat hi)] = some g_1 ∧ AV.tup [] = AV.tup []) <| .cons H12 <| .cons H13 <| .cons H14 <| .cons H15 <| .cons H15 <| .cons H16 <| .cons H15 <| .cons H15 <| .cons H15 <| .cons H17 <| .cons H18 <| .cons H19 <| .cons H20 <| .cons H20 <| .cons H20 <| .cons (by kernel_rfl : true = true) <| .nil
theorem dsl_6 (call : CallT → List AV → AHeap → FRes) (b x lo hi : Nat) (s : List UInt8) (h : AHeap) (n_1 n_2 n_3 : Nat) (g_1 : AHeap) (n_4 n_5 n_6 n_7 : Nat)
    (H1 : ltI (.ofNat (List.length s)) (.ofNat 1) = false)
    (H2 : idxS 0 s = some (.int .u8 (.ofNat b)))
    (H3 : Nat.le (Nat.succ b) 256)
    (H4 : load1 h 2 (0 + b * 1) = some (.int .u8 (.ofNat x)))
    (H5 : leI (.ofNat 240) (.ofNat x) = false)
    (H6 : arith .and .u8 (.ofNat x) (.ofNat 7) = some (.int .u8 (.ofNat n_1)))
    (H7 : evConvert Tryz.prog 5 3 (AV.int IntKind.u8 (Int.ofNat n_1)) h = OpRes.val (AV.int IntKind.i64 (Int.ofNat n_2)) h)
    (H8 : shiftA .shr .u8 (.ofNat x) (.ofNat 4) = some (.int .u8 (.ofNat n_3)))
    (H9 : Nat.le (Nat.succ n_3) 16)
    (H10 : AEv.loadCells h 3 (0 + n_3 * 2) 2 = some [.int .u8 (.ofNat lo), .int .u8 (.ofNat hi)])
    (H11 : AEv.storeCells (AHeap.push h (.cells [.int .u8 (.ofNat 0), .int .u8 (.ofNat 0)] 250 .own 0 0)) (AHeap.n h) 0 [.int .u8 (.ofNat lo), .int .u8 (.ofNat hi)] = some g_1)
    (H12 : ltI (.ofNat (List.length s)) (.ofNat n_2) = false)
    (H13 : idxS 1 s = some (.int .u8 (.ofNat n_4)))
    (H14 : load1 g_1 (AHeap.n h) (0 + 0) = some (.int .u8 (.ofNat n_5)))
    (H15 : ltI (.ofNat n_4) (.ofNat n_5) = false)
    (H16 : load1 g_1 (AHeap.n h) (0 + 1) = some (.int .u8 (.ofNat n_6)))
    (H17 : ltI (.ofNat n_6) (.ofNat n_4) = false)
    (H18 : leI (.ofNat n_2) (.ofNat 2) = false)
    (H19 : idxS 2 s = some (.int .u8 (.ofNat n_7)))
    (H20 : ltI (.ofNat n_7) (.ofNat 128) = false)
    (H21 : ltI (.ofNat 191) (.ofNat n_7) = true) :
    RunF Tryz.prog Tryz.f174 none call [] (SSt.mk [(0, .str s)] [] .none h) (.ret)
      (SSt.mk [(2, .int .i32 (.ofNat 65533)), (3, .int .i64 (.ofNat 1))] [] .none g_1) :=
  sxF_run [2, 3] (hs := [.b false, .v (.int .u8 (.ofNat b)), .v (.ptr 2 (0 + b * 1)), .v (.int .u8 (.ofNat x)), .b false, .v (.int .u8 (.ofNat n_1)), .v (.int .i64 (.ofNat n_2)), .v (.int .u8 (.ofNat n_3)), .v (.ptr 3 (0 + n_3 * 2)), .v (.agg [.int .u8 (.ofNat lo), .int .u8 (.ofNat hi)]), .vh (.tup []) g_1, .b false, .v (.int .u8 (.ofNat n_4)), .v (.int .u8 (.ofNat n_5)), .b false, .b false, .v (.int .u8 (.ofNat n_6)), .b false, .b false, .b false, .b false, .b false, .v (.int .u8 (.ofNat n_7)), .b false, .b false, .b false, .b true]) (by kernel_rfl) <| .cons H1 <| .cons H2 <| .cons (⟨H3, rfl⟩ : Nat.le (Nat.succ b) 256 ∧ AV.ptr 2 (0 + b * 1) = AV.ptr 2 (0 + b * 1)) <| .cons H4 <| .cons H5 <| .cons H6 <| .cons H7 <| .cons H8 <| .cons (⟨H9, rfl⟩ : Nat.le (Nat.succ n_3) 16 ∧ AV.ptr 3 (0 + n_3 * 2) = AV.ptr 3 (0 + n_3 * 2)) <| .cons H10 <| .cons (⟨by kernel_rfl, H11, rfl⟩ : some 2 = some 2 ∧ AEv.storeCells (AHeap.push h (AObj.cells [AV.int IntKind.u8 (Int.ofNat 0), AV.int IntKind.u8 (Int.ofNat 0)] 250 BK.own 0 0)) (AHeap.n h) 0 [AV.int IntKind.u8 (Int.ofNat lo), AV.int IntKind.u8 (Int.ofNat hi)] = some g_1 ∧ AV.tup [] = AV.tup []) <| .cons H12 <| .cons H13 <| .cons H14 <| .cons H15 <| .cons H15 <| .cons H16 <| .cons H15 <| .cons H15 <| .cons H15 <| .cons H17 <| .cons H18 <| .cons H19 <| .cons H20 <| .cons H20 <| .cons H20 <| .cons H21 <| .nil
theorem dsl_7 (call : CallT → List AV → AHeap → FRes) (b x lo hi : Nat) (s : List UInt8) (h : AHeap) (n_1 n_2 n_3 : Nat) (g_1 : AHeap) (n_4 n_5 n_6 n_7 n_8 n_9 n_10 n_11 n_12 n_13 n_14 n_15 n_16 n_17 : Nat)
    (H1 : ltI (.ofNat (List.length s)) (.ofNat 1) = false)
    (H2 : idxS 0 s = some (.int .u8 (.ofNat b)))
    (H3 : Nat.le (Nat.succ b) 256)
    (H4 : load1 h 2 (0 + b * 1) = some (.int .u8 (.ofNat x)))
    (H5 : leI (.ofNat 240) (.ofNat x) = false)
    (H6 : arith .and .u8 (.ofNat x) (.ofNat 7) = some (.int .u8 (.ofNat n_1)))
    (H7 : evConvert Tryz.prog 5 3 (AV.int IntKind.u8 (Int.ofNat n_1)) h = OpRes.val (AV.int IntKind.i64 (Int.ofNat n_2)) h)
    (H8 : shiftA .shr .u8 (.ofNat x) (.ofNat 4) = some (.int .u8 (.ofNat n_3)))
    (H9 : Nat.le (Nat.succ n_3) 16)
    (H10 : AEv.loadCells h 3 (0 + n_3 * 2) 2 = some [.int .u8 (.ofNat lo), .int .u8 (.ofNat hi)])
    (H11 : AEv.storeCells (AHeap.push h (.cells [.int .u8 (.ofNat 0), .int .u8 (.ofNat 0)] 250 .own 0 0)) (AHeap.n h) 0 [.int .u8 (.ofNat lo), .int .u8 (.ofNat hi)] = some g_1)
    (H12 : ltI (.ofNat (List.length s)) (.ofNat n_2) = false)
    (H13 : idxS 1 s = some (.int .u8 (.ofNat n_4)))
    (H14 : load1 g_1 (AHeap.n h) (0 + 0) = some (.int .u8 (.ofNat n_5)))
    (H15 : ltI (.ofNat n_4) (.ofNat n_5) = false)
    (H16 : load1 g_1 (AHeap.n h) (0 + 1) = some (.int .u8 (.ofNat n_6)))
    (H17 : ltI (.ofNat n_6) (.ofNat n_4) = false)
    (H18 : leI (.ofNat n_2) (.ofNat 2) = false)
    (H19 : idxS 2 s = some (.int .u8 (.ofNat n_7)))
    (H20 : ltI (.ofNat n_7) (.ofNat 128) = false)
    (H21 : ltI (.ofNat 191) (.ofNat n_7) = false)
    (H22 : leI (.ofNat n_2) (.ofNat 3) = true)
    (H23 : arith .and .u8 (.ofNat b) (.ofNat 15) = some (.int .u8 (.ofNat n_8)))
    (H24 : evConvert Tryz.prog 5 21 (AV.int IntKind.u8 (Int.ofNat n_8)) g_1 = OpRes.val (AV.int IntKind.i32 (Int.ofNat n_9)) g_1)
    (H25 : shiftA .shl .i32 (.ofNat n_9) (.ofNat 12) = some (.int .i32 (.ofNat n_10)))
    (H26 : arith .and .u8 (.ofNat n_4) (.ofNat 63) = some (.int .u8 (.ofNat n_11)))
    (H27 : evConvert Tryz.prog 5 21 (AV.int IntKind.u8 (Int.ofNat n_11)) g_1 = OpRes.val (AV.int IntKind.i32 (Int.ofNat n_12)) g_1)
    (H28 : shiftA .shl .i32 (.ofNat n_12) (.ofNat 6) = some (.int .i32 (.ofNat n_13)))
    (H29 : arith .or .i32 (.ofNat n_10) (.ofNat n_13) = some (.int .i32 (.ofNat n_14)))
    (H30 : arith .and .u8 (.ofNat n_7) (.ofNat 63) = some (.int .u8 (.ofNat n_15)))
    (H31 : evConvert Tryz.prog 5 21 (AV.int IntKind.u8 (Int.ofNat n_15)) g_1 = OpRes.val (AV.int IntKind.i32 (Int.ofNat n_16)) g_1)
    (H32 : arith .or .i32 (.ofNat n_14) (.ofNat n_16) = some (.int .i32 (.ofNat n_17))) :
    RunF Tryz.prog Tryz.f174 none call [] (SSt.mk [(0, .str s)] [] .none h) (.ret)
      (SSt.mk [(2, .int .i32 (.ofNat n_17)), (3, .int .i64 (.ofNat 3))] [] .none g_1) :=
  sxF_run [2, 3] (hs := [.b false, .v (.int .u8 (.ofNat b)), .v (.ptr 2 (0 + b * 1)), .v (.int .u8 (.ofNat x)), .b false, .v (.int .u8 (.ofNat n_1)), .v (.int .i64 (.ofNat n_2)), .v (.int .u8 (.ofNat n_3)), .v (.ptr 3 (0 + n_3 * 2)), .v (.agg [.int .u8 (.ofNat lo), .int .u8 (.ofNat hi)]), .vh (.tup []) g_1, .b false, .v (.int .u8 (.ofNat n_4)), .v (.int .u8 (.ofNat n_5)), .b false, .b false, .v (.int .u8 (.ofNat n_6)), .b false, .b false, .b false, .b false, .b false, .v (.int .u8 (.ofNat n_7)), .b false, .b false, .b false, .b false, .b true, .v (.int .u8 (.ofNat n_8)), .v (.int .i32 (.ofNat n_9)), .v (.int .i32 (.ofNat n_10)), .v (.int .u8 (.ofNat n_11)), .v (.int .i32 (.ofNat n_12)), .v (.int .i32 (.ofNat n_13)), .v (.int .i32 (.ofNat n_14)), .v (.int .u8 (.ofNat n_15)), .v (.int .i32 (.ofNat n_16)), .v (.int .i32 (.ofNat n_17))]) (by kernel_rfl) <| .cons H1 <| .cons H2 <| .cons (⟨H3, rfl⟩ : Nat.le (Nat.succ b) 256 ∧ AV.ptr 2 (0 + b * 1) = AV.ptr 2 (0 + b * 1)) <| .cons H4 <| .cons H5 <| .cons H6 <| .cons H7 <| .cons H8 <| .cons (⟨H9, rfl⟩ : Nat.le (Nat.succ n_3) 16 ∧ AV.ptr 3 (0 + n_3 * 2) = AV.ptr 3 (0 + n_3 * 2)) <| .cons H10 <| .cons (⟨by kernel_rfl, H11, rfl⟩ : some 2 = some 2 ∧ AEv.storeCells (AHeap.push h (AObj.cells [AV.int IntKind.u8 (Int.ofNat 0), AV.int IntKind.u8 (Int.ofNat 0)] 250 BK.own 0 0)) (AHeap.n h) 0 [AV.int IntKind.u8 (Int.ofNat lo), AV.int IntKind.u8 (Int.ofNat hi)] = some g_1 ∧ AV.tup [] = AV.tup []) <| .cons H12 <| .cons H13 <| .cons H14 <| .cons H15 <| .cons H15 <| .cons H16 <| .cons H15 <| .cons H15 <| .cons H15 <| .cons H17 <| .cons H18 <| .cons H19 <| .cons H20 <| .cons H20 <| .cons H20 <| .cons H21 <| .cons H22 <| .cons H23 <| .cons H24 <| .cons H25 <| .cons H26 <| .cons H27 <| .cons H28 <| .cons H29 <| .cons H30 <| .cons H31 <| .cons H32 <| .nil
theorem dsl_8 (call : CallT → List AV → AHeap → FRes) (b x lo hi : Nat) (s : List UInt8) (h : AHeap) (n_1 n_2 n_3 : Nat) (g_1 : AHeap) (n_4 n_5 n_6 n_7 n_8 : Nat)
    (H1 : ltI (.ofNat (List.length s)) (.ofNat 1) = false)
    (H2 : idxS 0 s = some (.int .u8 (.ofNat b)))
    (H3 : Nat.le (Nat.succ b) 256)
    (H4 : load1 h 2 (0 + b * 1) = some (.int .u8 (.ofNat x)))
    (H5 : leI (.ofNat 240) (.ofNat x) = false)
    (H6 : arith .and .u8 (.ofNat x) (.ofNat 7) = some (.int .u8 (.ofNat n_1)))
    (H7 : evConvert Tryz.prog 5 3 (AV.int IntKind.u8 (Int.ofNat n_1)) h = OpRes.val (AV.int IntKind.i64 (Int.ofNat n_2)) h)
    (H8 : shiftA .shr .u8 (.ofNat x) (.ofNat 4) = some (.int .u8 (.ofNat n_3)))
    (H9 : Nat.le (Nat.succ n_3) 16)
    (H10 : AEv.loadCells h 3 (0 + n_3 * 2) 2 = some [.int .u8 (.ofNat lo), .int .u8 (.ofNat hi)])
    (H11 : AEv.storeCells (AHeap.push h (.cells [.int .u8 (.ofNat 0), .int .u8 (.ofNat 0)] 250 .own 0 0)) (AHeap.n h) 0 [.int .u8 (.ofNat lo), .int .u8 (.ofNat hi)] = some g_1)
    (H12 : ltI (.ofNat (List.length s)) (.ofNat n_2) = false)
    (H13 : idxS 1 s = some (.int .u8 (.ofNat n_4)))
    (H14 : load1 g_1 (AHeap.n h) (0 + 0) = some (.int .u8 (.ofNat n_5)))
    (H15 : ltI (.ofNat n_4) (.ofNat n_5) = false)
    (H16 : load1 g_1 (AHeap.n h) (0 + 1) = some (.int .u8 (.ofNat n_6)))
    (H17 : ltI (.ofNat n_6) (.ofNat n_4) = false)
    (H18 : leI (.ofNat n_2) (.ofNat 2) = false)
    (H19 : idxS 2 s = some (.int .u8 (.ofNat n_7)))
    (H20 : ltI (.ofNat n_7) (.ofNat 128) = false)
    (H21 : ltI (.ofNat 191) (.ofNat n_7) = false)
    (H22 : leI (.ofNat n_2) (.ofNat 3) = false)
    (H23 : idxS 3 s = some (.int .u8 (.ofNat n_8)))
    (H24 : ltI (.ofNat n_8) (.ofNat 128) = true) :
    RunF Tryz.prog Tryz.f174 none call [] (SSt.mk [(0, .str s)] [] .none h) (.ret)
      (SSt.mk [(2, .int .i32 (.ofNat 65533)), (3, .int .i64 (.ofNat 1))] [] .none g_1) :=
  sxF_run [2, 3] (hs := [.b false, .v (.int .u8 (.ofNat b)), .v (.ptr 2 (0 + b * 1)), .v (.int .u8 (.ofNat x)), .b false, .v (.int .u8 (.ofNat n_1)), .v (.int .i64 (.ofNat n_2)), .v (.int .u8 (.ofNat n_3)), .v (.ptr 3 (0 + n_3 * 2)), .v (.agg [.int .u8 (.ofNat lo), .int .u8 (.ofNat hi)]), .vh (.tup []) g_1, .b false, .v (.int .u8 (.ofNat n_4)), .v (.int .u8 (.ofNat n_5)), .b false, .b false, .v (.int .u8 (.ofNat n_6)), .b false, .b false, .b false, .b false, .b false, .v (.int .u8 (.ofNat n_7)), .b false, .b false, .b false, .b false, .b false, .v (.int .u8 (.ofNat n_8)), .b true, .b true, .b true, .b true]) (by kernel_rfl) <| .cons H1 <| .cons H2 <| .cons (⟨H3, rfl⟩ : Nat.le (Nat.succ b) 256 ∧ AV.ptr 2 (0 + b * 1) = AV.ptr 2 (0 + b * 1)) <| .cons H4 <| .cons H5 <| .cons H6 <| .cons H7 <| .cons H8 <| .cons (⟨H9, rfl⟩ : Nat.le (Nat.succ n_3) 16 ∧ AV.ptr 3 (0 + n_3 * 2) = AV.ptr 3 (0 + n_3 * 2)) <| .cons H10 <| .cons (⟨by kernel_rfl, H11, rfl⟩ : some 2 = some 2 ∧ AEv.storeCells (AHeap.push h (AObj.cells [AV.int IntKind.u8 (Int.ofNat 0), AV.int IntKind.u8 (Int.ofNat 0)] 250 BK.own 0 0)) (AHeap.n h) 0 [AV.int IntKind.u8 (Int.ofNat lo), AV.int IntKind.u8 (Int.ofNat hi)] = some g_1 ∧ AV.tup [] = AV.tup []) <| .cons H12 <| .cons H13 <| .cons H14 <| .cons H15 <| .cons H15 <| .cons H16 <| .cons H15 <| .cons H15 <| .cons H15 <| .cons H17 <| .cons H18 <| .cons H19 <| .cons H20 <| .cons H20 <| .cons H20 <| .cons H21 <| .cons H22 <| .cons H23 <| .cons H24 <| .cons H24 <| .cons H24 <| .cons (by kernel_rfl : true = true) <| .nil
theorem dsl_9 (call : CallT → List AV → AHeap → FRes) (b x lo hi : Nat) (s : List UInt8) (h : AHeap) (n_1 n_2 n_3 : Nat) (g_1 : AHeap) (n_4 n_5 n_6 n_7 n_8 : Nat)
    (H1 : ltI (.ofNat (List.length s)) (.ofNat 1) = false)
    (H2 : idxS 0 s = some (.int .u8 (.ofNat b)))
    (H3 : Nat.le (Nat.succ b) 256)
    (H4 : load1 h 2 (0 + b * 1) = some (.int .u8 (.ofNat x)))
    (H5 : leI (.ofNat 240) (.ofNat x) = false)
    (H6 : arith .and .u8 (.ofNat x) (.ofNat 7) = some (.int .u8 (.ofNat n_1)))
    (H7 : evConvert Tryz.prog 5 3 (AV.int IntKind.u8 (Int.ofNat n_1)) h = OpRes.val (AV.int IntKind.i64 (Int.ofNat n_2)) h)
    (H8 : shiftA .shr .u8 (.ofNat x) (.ofNat 4) = some (.int .u8 (.ofNat n_3)))
    (H9 : Nat.le (Nat.succ n_3) 16)
    (H10 : AEv.loadCells h 3 (0 + n_3 * 2) 2 = some [.int .u8 (.ofNat lo), .int .u8 (.ofNat hi)])
    (H11 : AEv.storeCells (AHeap.push h (.cells [.int .u8 (.ofNat 0), .int .u8 (.ofNat 0)] 250 .own 0 0)) (AHeap.n h) 0 [.int .u8 (.ofNat lo), .int .u8 (.ofNat hi)] = some g_1)
    (H12 : ltI (.ofNat (List.length s)) (.ofNat n_2) = false)
    (H13 : idxS 1 s = some (.int .u8 (.ofNat n_4)))
    (H14 : load1 g_1 (AHeap.n h) (0 + 0) = some (.int .u8 (.ofNat n_5)))
    (H15 : ltI (.ofNat n_4) (.ofNat n_5) = false)
    (H16 : load1 g_1 (AHeap.n h) (0 + 1) = some (.int .u8 (.ofNat n_6)))
    (H17 : ltI (.ofNat n_6) (.ofNat n_4) = false)
    (H18 : leI (.ofNat n_2) (.ofNat 2) = false)
    (H19 : idxS 2 s = some (.int .u8 (.ofNat n_7)))
    (H20 : ltI (.ofNat n_7) (.ofNat 128) = false)
    (H21 : ltI (.ofNat 191) (.ofNat n_7) = false)
    (H22 : leI (.ofNat n_2) (.ofNat 3) = false)
    (H23 : idxS 3 s = some (.int .u8 (.ofNat n_8)))
    (H24 : ltI (.ofNat n_8) (.ofNat 128) = false)
    (H25 : ltI (.ofNat 191) (.ofNat n_8) = true) :
    RunF Tryz.prog Tryz.f174 none call [] (SSt.mk [(0, .str s)] [] .none h) (.ret)
      (SSt.mk [(2, .int .i32 (.ofNat 65533)), (3, .int .i64 (.ofNat 1))] [] .none g_1) :=
  sxF_run [2, 3] (hs := [.b false, .v (.int .u8 (.ofNat b)), .v (.ptr 2 (0 + b * 1)), .v (.int .u8 (.ofNat x)), .b false, .v (.int .u8 (.ofNat n_1)), .v (.int .i64 (.ofNat n_2)), .v (.int .u8 (.ofNat n_3)), .v (.ptr 3 (0 + n_3 * 2)), .v (.agg [.int .u8 (.ofNat lo), .int .u8 (.ofNat hi)]), .vh (.tup []) g_1, .b false, .v (.int .u8 (.ofNat n_4)), .v (.int .u8 (.ofNat n_5)), .b false, .b false, .v (.int .u8 (.ofNat n_6)), .b false, .b false, .b false, .b false, .b false, .v (.int .u8 (.ofNat n_7)), .b false, .b false, .b false, .b false, .b false, .v (.int .u8 (.ofNat n_8)), .b false, .b false, .b false, .b true]) (by kernel_rfl) <| .cons H1 <| .cons H2 <| .cons (⟨H3, rfl⟩ : Nat.le (Nat.succ b) 256 ∧ AV.ptr 2 (0 + b * 1) = AV.ptr 2 (0 + b * 1)) <| .cons H4 <| .cons H5 <| .cons H6 <| .cons H7 <| .cons H8 <| .cons (⟨H9, rfl⟩ : Nat.le (Nat.succ n_3) 16 ∧ AV.ptr 3 (0 + n_3 * 2) = AV.ptr 3 (0 + n_3 * 2)) <| .cons H10 <| .cons (⟨by kernel_rfl, H11, rfl⟩ : some 2 = some 2 ∧ AEv.storeCells (AHeap.push h (AObj.cells [AV.int IntKind.u8 (Int.ofNat 0), AV.int IntKind.u8 (Int.ofNat 0)] 250 BK.own 0 0)) (AHeap.n h) 0 [AV.int IntKind.u8 (Int.ofNat lo), AV.int IntKind.u8 (Int.ofNat hi)] = some g_1 ∧ AV.tup [] = AV.tup []) <| .cons H12 <| .cons H13 <| .cons H14 <| .cons H15 <| .cons H15 <| .cons H16 <| .cons H15 <| .cons H15 <| .cons H15 <| .cons H17 <| .cons H18 <| .cons H19 <| .cons H20 <| .cons H20 <| .cons H20 <| .cons H21 <| .cons H22 <| .cons H23 <| .cons H24 <| .cons H24 <| .cons H24 <| .cons H25 <| .nil
theorem dsl_10 (call : CallT → List AV → AHeap → FRes) (b x lo hi : Nat) (s : List UInt8) (h : AHeap) (n_1 n_2 n_3 : Nat) (g_1 : AHeap) (n_4 n_5 n_6 n_7 n_8 n_9 n_10 n_11 n_12 n_13 n_14 n_15 n_16 n_17 n_18 n_19 n_20 n_21 n_22 : Nat)
    (H1 : ltI (.ofNat (List.length s)) (.ofNat 1) = false)
    (H2 : idxS 0 s = some (.int .u8 (.ofNat b)))
    (H3 : Nat.le (Nat.succ b) 256)
    (H4 : load1 h 2 (0 + b * 1) = some (.int .u8 (.ofNat x)))
    (H5 : leI (.ofNat 240) (.ofNat x) = false)
    (H6 : arith .and .u8 (.ofNat x) (.ofNat 7) = some (.int .u8 (.ofNat n_1)))
    (H7 : evConvert Tryz.prog 5 3 (AV.int IntKind.u8 (Int.ofNat n_1)) h = OpRes.val (AV.int IntKind.i64 (Int.ofNat n_2)) h)
    (H8 : shiftA .shr .u8 (.ofNat x) (.ofNat 4) = some (.int .u8 (.ofNat n_3)))
    (H9 : Nat.le (Nat.succ n_3) 16)
    (H10 : AEv.loadCells h 3 (0 + n_3 * 2) 2 = some [.int .u8 (.ofNat lo), .int .u8 (.ofNat hi)])
    (H11 : AEv.storeCells (AHeap.push h (.cells [.int .u8 (.ofNat 0), .int .u8 (.ofNat 0)] 250 .own 0 0)) (AHeap.n h) 0 [.int .u8 (.ofNat lo), .int .u8 (.ofNat hi)] = some g_1)
    (H12 : ltI (.ofNat (List.length s)) (.ofNat n_2) = false)
    (H13 : idxS 1 s = some (.int .u8 (.ofNat n_4)))
    (H14 : load1 g_1 (AHeap.n h) (0 + 0) = some (.int .u8 (.ofNat n_5)))
    (H15 : ltI (.ofNat n_4) (.ofNat n_5) = false)
    (H16 : load1 g_1 (AHeap.n h) (0 + 1) = some (.int .u8 (.ofNat n_6)))
    (H17 : ltI (.ofNat n_6) (.ofNat n_4) = false)
    (H18 : leI (.ofNat n_2) (.ofNat 2) = false)
    (H19 : idxS 2 s = some (.int .u8 (.ofNat n_7)))
    (H20 : ltI (.ofNat n_7) (.ofNat 128) = false)
    (H21 : ltI (.ofNat 191) (.ofNat n_7) = false)
    (H22 : leI (.ofNat n_2) (.ofNat 3) = false)
    (H23 : idxS 3 s = some (.int .u8 (.ofNat n_8)))
    (H24 : ltI (.ofNat n_8) (.ofNat 128) = false)
    (H25 : ltI (.ofNat 191) (.ofNat n_8) = false)
    (H26 : arith .and .u8 (.ofNat b) (.ofNat 7) = some (.int .u8 (.ofNat n_9)))
    (H27 : evConvert Tryz.prog 5 21 (AV.int IntKind.u8 (Int.ofNat n_9)) g_1 = OpRes.val (AV.int IntKind.i32 (Int.ofNat n_10)) g_1)
    (H28 : shiftA .shl .i32 (.ofNat n_10) (.ofNat 18) = some (.int .i32 (.ofNat n_11)))
    (H29 : arith .and .u8 (.ofNat n_4) (.ofNat 63) = some (.int .u8 (.ofNat n_12)))
    (H30 : evConvert Tryz.prog 5 21 (AV.int IntKind.u8 (Int.ofNat n_12)) g_1 = OpRes.val (AV.int IntKind.i32 (Int.ofNat n_13)) g_1)
    (H31 : shiftA .shl .i32 (.ofNat n_13) (.ofNat 12) = some (.int .i32 (.ofNat n_14)))
    (H32 : arith .or .i32 (.ofNat n_11) (.ofNat n_14) = some (.int .i32 (.ofNat n_15)))
    (H33 : arith .and .u8 (.ofNat n_7) (.ofNat 63) = some (.int .u8 (.ofNat n_16)))
    (H34 : evConvert Tryz.prog 5 21 (AV.int IntKind.u8 (Int.ofNat n_16)) g_1 = OpRes.val (AV.int IntKind.i32 (Int.ofNat n_17)) g_1)
    (H35 : shiftA .shl .i32 (.ofNat n_17) (.ofNat 6) = some (.int .i32 (.ofNat n_18)))
    (H36 : arith .or .i32 (.ofNat n_15) (.ofNat n_18) = some (.int .i32 (.ofNat n_19)))
    (H37 : arith .and .u8 (.ofNat n_8) (.ofNat 63) = some (.int .u8 (.ofNat n_20)))
    (H38 : evConvert Tryz.prog 5 21 (AV.int IntKind.u8 (Int.ofNat n_20)) g_1 = OpRes.val (AV.int IntKind.i32 (Int.ofNat n_21)) g_1)
    (H39 : arith .or .i32 (.ofNat n_19) (.ofNat n_21) = some (.int .i32 (.ofNat n_22))) :
    RunF Tryz.prog Tryz.f174 none call [] (SSt.mk [(0, .str s)] [] .none h) (.ret)
      (SSt.mk [(2, .int .i32 (.ofNat n_22)), (3, .int .i64 (.ofNat 4))] [] .none g_1) :=
  sxF_run [2, 3] (hs := [.b false, .v (.int .u8 (.ofNat b)), .v (.ptr 2 (0 + b * 1)), .v (.int .u8 (.ofNat x)), .b false, .v (.int .u8 (.ofNat n_1)), .v (.int .i64 (.ofNat n_2)), .v (.int .u8 (.ofNat n_3)), .v (.ptr 3 (0 + n_3 * 2)), .v (.agg [.int .u8 (.ofNat lo), .int .u8 (.ofNat hi)]), .vh (.tup []) g_1, .b false, .v (.int .u8 (.ofNat n_4)), .v (.int .u8 (.ofNat n_5)), .b false, .b false, .v (.int .u8 (.ofNat n_6)), .b false, .b false, .b false, .b false, .b false, .v (.int .u8 (.ofNat n_7)), .b false, .b false, .b false, .b false, .b false, .v (.int .u8 (.ofNat n_8)), .b false, .b false, .b false, .b false, .v (.int .u8 (.ofNat n_9)), .v (.int .i32 (.ofNat n_10)), .v (.int .i32 (.ofNat n_11)), .v (.int .u8 (.ofNat n_12)), .v (.int .i32 (.ofNat n_13)), .v (.int .i32 (.ofNat n_14)), .v (.int .i32 (.ofNat n_15)), .v (.int .u8 (.ofNat n_16)), .v (.int .i32 (.ofNat n_17)), .v (.int .i32 (.ofNat n_18)), .v (.int .i32 (.ofNat n_19)), .v (.int .u8 (.ofNat n_20)), .v (.int .i32 (.ofNat n_21)), .v (.int .i32 (.ofNat n_22))]) (by kernel_rfl) <| .cons H1 <| .cons H2 <| .cons (⟨H3, rfl⟩ : Nat.le (Nat.succ b) 256 ∧ AV.ptr 2 (0 + b * 1) = AV.ptr 2 (0 + b * 1)) <| .cons H4 <| .cons H5 <| .cons H6 <| .cons H7 <| .cons H8 <| .cons (⟨H9, rfl⟩ : Nat.le (Nat.succ n_3) 16 ∧ AV.ptr 3 (0 + n_3 * 2) = AV.ptr 3 (0 + n_3 * 2)) <| .cons H10 <| .cons (⟨by kernel_rfl, H11, rfl⟩ : some 2 = some 2 ∧ AEv.storeCells (AHeap.push h (AObj.cells [AV.int IntKind.u8 (Int.ofNat 0), AV.int IntKind.u8 (Int.ofNat 0)] 250 BK.own 0 0)) (AHeap.n h) 0 [AV.int IntKind.u8 (Int.ofNat lo), AV.int IntKind.u8 (Int.ofNat hi)] = some g_1 ∧ AV.tup [] = AV.tup []) <| .cons H12 <| .cons H13 <| .cons H14 <| .cons H15 <| .cons H15 <| .cons H16 <| .cons H15 <| .cons H15 <| .cons H15 <| .cons H17 <| .cons H18 <| .cons H19 <| .cons H20 <| .cons H20 <| .cons H20 <| .cons H21 <| .cons H22 <| .cons H23 <| .cons H24 <| .cons H24 <| .cons H24 <| .cons H25 <| .cons H26 <| .cons H27 <| .cons H28 <| .cons H29 <| .cons H30 <| .cons H31 <| .cons H32 <| .cons H33 <| .cons H34 <| .cons H35 <| .cons H36 <| .cons H37 <| .cons H38 <| .cons H39 <| .nil
theorem ba1 (call : CallT → List AV → AHeap → FRes) (b : Nat) (h g_1 : AHeap)
    (H1 : load1 h b (0 + 0) = some .nilP)
    (H2 : evConvert Tryz.prog 74 164 (AV.ptr b 0) h = OpRes.val (AV.ptr b 0) h)
    (H3 : call (.fn 125) [.ptr b 0] h = FRes.ret (.ptr b 0) h)
    (H4 : evConvert Tryz.prog 164 74 (AV.ptr b 0) h = OpRes.val (AV.ptr b 0) h)
    (H5 : AEv.storeCells h b (0 + 0) [.ptr b 0] = some g_1) :
    RunF Tryz.prog Tryz.f87 none call [] (SSt.mk [(0, .ptr b 0)] [] .none h) (.nrm)
      (SSt.mk [] [] .none g_1) :=
  sxF_run [] (hs := [.v .nilP, .v (.bool true), .b true, .v (.ptr b 0), .c (.ptr b 0) h, .v (.ptr b 0), .vh (.tup []) g_1]) (by kernel_rfl) <| .cons H1 <| .cons (by kernel_rfl : binA Tryz.prog h BinOp.eql 74 (Operand.tmp 5) (Operand.const (Value.pointer none)) AV.nilP AV.nilP = some (AV.bool true)) <| .cons (by kernel_rfl : true = true) <| .cons H2 <| .cons H3 <| .cons H4 <| .cons (⟨by kernel_rfl, H5, rfl⟩ : some 1 = some 1 ∧ AEv.storeCells h b (0 + 0) [AV.ptr b 0] = some g_1 ∧ AV.tup [] = AV.tup []) <| .nil
theorem ba2 (call : CallT → List AV → AHeap → FRes) (b : Nat) (h : AHeap) (b_1 : Bool)
    (H1 : load1 h b (0 + 0) = some (.ptr b 0))
    (H2 : binA Tryz.prog h BinOp.neq 74 (Operand.tmp 17) (Operand.tmp 18) (AV.ptr b 0) (AV.ptr b 0) = some (AV.bool b_1))
    (H3 : b_1 = false) :
    RunF Tryz.prog Tryz.f87 none call [] (SSt.mk [(0, .ptr b 0)] [] .none h) (.nrm)
      (SSt.mk [] [] .none h) :=
  sxF_run [] (hs := [.v (.ptr b 0), .v (.bool false), .b false, .v (.ptr b 0), .v (.bool b_1), .b false]) (by kernel_rfl) <| .cons H1 <| .cons (by kernel_rfl : binA Tryz.prog h BinOp.eql 74 (Operand.tmp 5) (Operand.const (Value.pointer none)) (AV.ptr b 0) AV.nilP = some (AV.bool false)) <| .cons (by kernel_rfl : false = false) <| .cons H1 <| .cons H2 <| .cons H3 <| .nil
theorem bws (call : CallT → List AV → AHeap → FRes) (b c m : Nat) (s : List UInt8) (v : AV) (h h2 g_1 g_2 : AHeap)
    (H1 : call (.fn 87) [.ptr b 0] h = FRes.ret (.tup []) g_1)
    (H2 : load1 g_1 b (0 + 1) = some v)
    (H3 : appendA Tryz.prog g_1 22 (some 9) v (AV.str s) = some (AV.slice c 0 m (Cap.opn 1), h2))
    (H4 : AEv.storeCells h2 b (0 + 1) [.slice c 0 m (.opn 1)] = some g_2) :
    RunF Tryz.prog Tryz.f61 none call [] (SSt.mk [(0, .ptr b 0), (1, .str s)] [] .none h) (.ret)
      (SSt.mk [(4, .int .i64 (.ofNat (List.length s))), (5, .nilI)] [] .none g_2) :=
  sxF_run [4, 5] (hs := [.c (.tup []) g_1, .v v, .vh (.slice c 0 m (.opn 1)) h2, .vh (.tup []) g_2]) (by kernel_rfl) <| .cons H1 <| .cons H2 <| .cons H3 <| .cons (⟨by kernel_rfl, H4, rfl⟩ : some 1 = some 1 ∧ AEv.storeCells h2 b (0 + 1) [AV.slice c 0 m (Cap.opn 1)] = some g_2 ∧ AV.tup [] = AV.tup []) <| .nil
theorem bwn (call : CallT → List AV → AHeap → FRes) (b : Nat) (s : List UInt8) (v : AV) (h h2 g_1 g_2 : AHeap)
    (H1 : call (.fn 87) [.ptr b 0] h = FRes.ret (.tup []) g_1)
    (H2 : load1 g_1 b (0 + 1) = some v)
    (H3 : appendA Tryz.prog g_1 22 (some 9) v (AV.str s) = some (AV.nilS, h2))
    (H4 : AEv.storeCells h2 b (0 + 1) [.nilS] = some g_2) :
    RunF Tryz.prog Tryz.f61 none call [] (SSt.mk [(0, .ptr b 0), (1, .str s)] [] .none h) (.ret)
      (SSt.mk [(4, .int .i64 (.ofNat (List.length s))), (5, .nilI)] [] .none g_2) :=
  sxF_run [4, 5] (hs := [.c (.tup []) g_1, .v v, .vh .nilS h2, .vh (.tup []) g_2]) (by kernel_rfl) <| .cons H1 <| .cons H2 <| .cons H3 <| .cons (⟨by kernel_rfl, H4, rfl⟩ : some 1 = some 1 ∧ AEv.storeCells h2 b (0 + 1) [AV.nilS] = some g_2 ∧ AV.tup [] = AV.tup []) <| .nil
theorem bst (call : CallT → List AV → AHeap → FRes) (b c m : Nat) (h : AHeap) (t_1 : List UInt8) (g_1 : AHeap)
    (H1 : load1 (AHeap.room h 12) b (0 + 1) = some (.slice c 0 m (.opn 1)))
    (H2 : evBuiltin Tryz.prog Builtin.unsafeSliceData (Array.mk [22]) [.slice c 0 m (.opn 1)] (AHeap.room h 12) = OpRes.val (.ptr c 0) (AHeap.room h 12))
    (H3 : unsafeStrA Tryz.prog (AHeap.room h 12) 123 (AV.ptr c 0) (AV.int IntKind.i64 (Int.ofNat m)) = some (AV.str t_1, g_1)) :
    RunF Tryz.prog Tryz.f25 none call [] (SSt.mk [(0, .ptr b 0)] [] .none h) (.ret)
      (SSt.mk [(2, .str t_1)] [] .none g_1) :=
  sxF_run [2] (hs := [.v (.slice c 0 m (.opn 1)), .v (.ptr c 0), .v (.slice c 0 m (.opn 1)), .vh (.str t_1) g_1]) (by kernel_rfl) <| .cons H1 <| .cons H2 <| .cons H1 <| .cons H3 <| .cons (by kernel_rfl : AV.sound (AV.ptr b 0) = true) <| .cons (by kernel_rfl : AV.ptr b 0 = AV.ptr b 0) <| .cons (by kernel_rfl : AV.sound (AV.ptr b 0) = true) <| .cons (by kernel_rfl : AV.ptr b 0 = AV.ptr b 0) <| .cons (by kernel_rfl : AV.sound (AV.ptr b (0 + 1)) = true) <| .cons (by kernel_rfl : AV.ptr b (0 + 1) = AV.ptr b (0 + 1)) <| .cons (by kernel_rfl : AV.sound (AV.slice c 0 m (Cap.opn 1)) = true) <| .cons H1 <| .cons (by kernel_rfl : AV.sound (AV.ptr c 0) = true) <| .cons H2 <| .cons (by kernel_rfl : AV.sound (AV.ptr b 0) = true) <| .cons (by kernel_rfl : AV.ptr b 0 = AV.ptr b 0) <| .cons (by kernel_rfl : AV.sound (AV.ptr b 0) = true) <| .cons (by kernel_rfl : AV.ptr b 0 = AV.ptr b 0) <| .cons (by kernel_rfl : AV.sound (AV.ptr b (0 + 1)) = true) <| .cons (by kernel_rfl : AV.ptr b (0 + 1) = AV.ptr b (0 + 1)) <| .cons (by kernel_rfl : AV.sound (AV.slice c 0 m (Cap.opn 1)) = true) <| .cons H1 <| .cons (by kernel_rfl : AV.sound (AV.int IntKind.i64 (Int.ofNat m)) = true) <| .cons (by kernel_rfl : AV.int IntKind.i64 (Int.ofNat m) = AV.int IntKind.i64 (Int.ofNat m)) <| .cons (by kernel_rfl : AV.sound (AV.str t_1) = true) <| .cons (by kernel_rfl : AV.str t_1 = AV.str t_1) <| .nil
theorem bs0 (call : CallT → List AV → AHeap → FRes) (b : Nat) (h : AHeap) (t_1 : List UInt8) (g_1 : AHeap)
    (H1 : load1 (AHeap.room h 12) b (0 + 1) = some .nilS)
    (H2 : unsafeStrA Tryz.prog (AHeap.room h 12) 123 AV.nilP (AV.int IntKind.i64 (Int.ofNat 0)) = some (AV.str t_1, g_1)) :
    RunF Tryz.prog Tryz.f25 none call [] (SSt.mk [(0, .ptr b 0)] [] .none h) (.ret)
      (SSt.mk [(2, .str t_1)] [] .none g_1) :=
  sxF_run [2] (hs := [.v .nilS, .v .nilP, .v .nilS, .vh (.str t_1) g_1]) (by kernel_rfl) <| .cons H1 <| .cons (by kernel_rfl : evBuiltin Tryz.prog Builtin.unsafeSliceData (Array.mk [22]) [AV.nilS] (AHeap.room h 12) = OpRes.val AV.nilP (AHeap.room h 12)) <| .cons H1 <| .cons H2 <| .cons (by kernel_rfl : AV.sound (AV.ptr b 0) = true) <| .cons (by kernel_rfl : AV.ptr b 0 = AV.ptr b 0) <| .cons (by kernel_rfl : AV.sound (AV.ptr b 0) = true) <| .cons (by kernel_rfl : AV.ptr b 0 = AV.ptr b 0) <| .cons (by kernel_rfl : AV.sound (AV.ptr b (0 + 1)) = true) <| .cons (by kernel_rfl : AV.ptr b (0 + 1) = AV.ptr b (0 + 1)) <| .cons (by kernel_rfl : AV.sound AV.nilS = true) <| .cons H1 <| .cons (by kernel_rfl : AV.sound AV.nilP = true) <| .cons (by kernel_rfl : evBuiltin Tryz.prog Builtin.unsafeSliceData (Array.mk [22]) [AV.nilS] (AHeap.room h 12) = OpRes.val AV.nilP (AHeap.room h 12)) <| .cons (by kernel_rfl : AV.sound (AV.ptr b 0) = true) <| .cons (by kernel_rfl : AV.ptr b 0 = AV.ptr b 0) <| .cons (by kernel_rfl : AV.sound (AV.ptr b 0) = true) <| .cons (by kernel_rfl : AV.ptr b 0 = AV.ptr b 0) <| .cons (by kernel_rfl : AV.sound (AV.ptr b (0 + 1)) = true) <| .cons (by kernel_rfl : AV.ptr b (0 + 1) = AV.ptr b (0 + 1)) <| .cons (by kernel_rfl : AV.sound AV.nilS = true) <| .cons H1 <| .cons (by kernel_rfl : AV.sound (AV.int IntKind.i64 (Int.ofNat 0)) = true) <| .cons (by kernel_rfl : AV.int IntKind.i64 (Int.ofNat 0) = AV.int IntKind.i64 (Int.ofNat 0)) <| .cons (by kernel_rfl : AV.sound (AV.str t_1) = true) <| .cons (by kernel_rfl : AV.str t_1 = AV.str t_1) <| .nil
theorem bwrn (call : CallT → List AV → AHeap → FRes) (b c m r : Nat) (h g g_1 g_2 : AHeap) (n_1 n_2 n_3 : Nat) (c_1 : Cap) (n_4 : Nat)
    (H1 : call (.fn 87) [.ptr b 0] h = FRes.ret (.tup []) g_1)
    (H2 : load1 g_1 b (0 + 1) = some .nilS)
    (H3 : call (.fn 179) [.nilS, .int .i32 (.ofNat r)] g_1 = FRes.ret (.slice c 0 m (.opn 1)) g)
    (H4 : AEv.storeCells g b (0 + 1) [.slice c 0 m (.opn 1)] = some g_2)
    (H5 : load1 g_2 b (0 + 1) = some (.slice n_1 n_2 n_3 c_1))
    (H6 : arith .sub .i64 (.ofNat n_3) (.ofNat 0) = some (.int .i64 (.ofNat n_4))) :
    RunF Tryz.prog Tryz.f147 none call [] (SSt.mk [(0, .ptr b 0), (1, .int .i32 (.ofNat r))] [] .none h) (.ret)
      (SSt.mk [(4, .int .i64 (.ofNat n_4)), (5, .nilI)] [] .none g_2) :=
  sxF_run [4, 5] (hs := [.c (.tup []) g_1, .v .nilS, .v .nilS, .c (.slice c 0 m (.opn 1)) g, .vh (.tup []) g_2, .v (.slice n_1 n_2 n_3 c_1), .v (.int .i64 (.ofNat n_4))]) (by kernel_rfl) <| .cons H1 <| .cons H2 <| .cons H2 <| .cons H3 <| .cons (⟨by kernel_rfl, H4, rfl⟩ : some 1 = some 1 ∧ AEv.storeCells g b (0 + 1) [AV.slice c 0 m (Cap.opn 1)] = some g_2 ∧ AV.tup [] = AV.tup []) <| .cons H5 <| .cons H6 <| .nil
theorem bwrs (call : CallT → List AV → AHeap → FRes) (b c m c2 m2 r : Nat) (h g g_1 g_2 : AHeap) (n_1 n_2 n_3 : Nat) (c_1 : Cap) (n_4 : Nat)
    (H1 : call (.fn 87) [.ptr b 0] h = FRes.ret (.tup []) g_1)
    (H2 : load1 g_1 b (0 + 1) = some (.slice c2 0 m2 (.opn 1)))
    (H3 : call (.fn 179) [.slice c2 0 m2 (.opn 1), .int .i32 (.ofNat r)] g_1 = FRes.ret (.slice c 0 m (.opn 1)) g)
    (H4 : AEv.storeCells g b (0 + 1) [.slice c 0 m (.opn 1)] = some g_2)
    (H5 : load1 g_2 b (0 + 1) = some (.slice n_1 n_2 n_3 c_1))
    (H6 : arith .sub .i64 (.ofNat n_3) (.ofNat m2) = some (.int .i64 (.ofNat n_4))) :
    RunF Tryz.prog Tryz.f147 none call [] (SSt.mk [(0, .ptr b 0), (1, .int .i32 (.ofNat r))] [] .none h) (.ret)
      (SSt.mk [(4, .int .i64 (.ofNat n_4)), (5, .nilI)] [] .none g_2) :=
  sxF_run [4, 5] (hs := [.c (.tup []) g_1, .v (.slice c2 0 m2 (.opn 1)), .v (.slice c2 0 m2 (.opn 1)), .c (.slice c 0 m (.opn 1)) g, .vh (.tup []) g_2, .v (.slice n_1 n_2 n_3 c_1), .v (.int .i64 (.ofNat n_4))]) (by kernel_rfl) <| .cons H1 <| .cons H2 <| .cons H2 <| .cons H3 <| .cons (⟨by kernel_rfl, H4, rfl⟩ : some 1 = some 1 ∧ AEv.storeCells g b (0 + 1) [AV.slice c 0 m (Cap.opn 1)] = some g_2 ∧ AV.tup [] = AV.tup []) <| .cons H5 <| .cons H6 <| .nil
theorem apr (call : CallT → List AV → AHeap → FRes) (r c m : Nat) (v : AV) (h g : AHeap) (n_1 n_2 : Nat)
    (H1 : evConvert Tryz.prog 21 169 (AV.int IntKind.i32 (Int.ofNat r)) h = OpRes.val (AV.int IntKind.u32 (Int.ofNat n_1)) h)
    (H2 : leI (.ofNat n_1) (.ofNat 127) = true)
    (H3 : evConvert Tryz.prog 21 5 (AV.int IntKind.i32 (Int.ofNat r)) h = OpRes.val (AV.int IntKind.u8 (Int.ofNat n_2)) h)
    (H4 : appendA Tryz.prog (AHeap.push h (AObj.cells [AV.int IntKind.u8 (Int.ofNat n_2)] 5 BK.own 0 0)) 22 (some 22) v (AV.slice (AHeap.n h) 0 1 (Cap.exact 1)) = some (AV.slice c 0 m (Cap.opn 1), g)) :
    RunF Tryz.prog Tryz.f179 none call [] (SSt.mk [(0, v), (1, .int .i32 (.ofNat r))] [] .none h) (.ret)
      (SSt.mk [(4, .slice c 0 m (.opn 1))] [] .none g) :=
  sxF_run [4] (hs := [.v (.int .u32 (.ofNat n_1)), .b true, .v (.int .u8 (.ofNat n_2)), .vh (.slice c 0 m (.opn 1)) g]) (by kernel_rfl) <| .cons H1 <| .cons H2 <| .cons H3 <| .cons H4 <| .nil
theorem apn (call : CallT → List AV → AHeap → FRes) (r c m : Nat) (v : AV) (h g : AHeap) (n_1 : Nat)
    (H1 : evConvert Tryz.prog 21 169 (AV.int IntKind.i32 (Int.ofNat r)) h = OpRes.val (AV.int IntKind.u32 (Int.ofNat n_1)) h)
    (H2 : leI (.ofNat n_1) (.ofNat 127) = false)
    (H3 : call (.fn 196) [v, .int .i32 (.ofNat r)] h = FRes.ret (.slice c 0 m (.opn 1)) g) :
    RunF Tryz.prog Tryz.f179 none call [] (SSt.mk [(0, v), (1, .int .i32 (.ofNat r))] [] .none h) (.ret)
      (SSt.mk [(4, .slice c 0 m (.opn 1))] [] .none g) :=
  sxF_run [4] (hs := [.v (.int .u32 (.ofNat n_1)), .b false, .c (.slice c 0 m (.opn 1)) g]) (by kernel_rfl) <| .cons H1 <| .cons H2 <| .cons H3 <| .nil
theorem an2 (call : CallT → List AV → AHeap → FRes) (r c m : Nat) (v : AV) (h g : AHeap) (n_1 n_2 n_3 n_4 n_5 n_6 n_7 : Nat)
    (H1 : evConvert Tryz.prog 21 169 (AV.int IntKind.i32 (Int.ofNat r)) h = OpRes.val (AV.int IntKind.u32 (Int.ofNat n_1)) h)
    (H2 : leI (.ofNat n_1) (.ofNat 2047) = true)
    (H3 : shiftA .shr .i32 (.ofNat r) (.ofNat 6) = some (.int .i32 (.ofNat n_2)))
    (H4 : evConvert Tryz.prog 21 5 (AV.int IntKind.i32 (Int.ofNat n_2)) h = OpRes.val (AV.int IntKind.u8 (Int.ofNat n_3)) h)
    (H5 : arith .or .u8 (.ofNat 192) (.ofNat n_3) = some (.int .u8 (.ofNat n_4)))
    (H6 : evConvert Tryz.prog 21 5 (AV.int IntKind.i32 (Int.ofNat r)) h = OpRes.val (AV.int IntKind.u8 (Int.ofNat n_5)) h)
    (H7 : arith .and .u8 (.ofNat n_5) (.ofNat 63) = some (.int .u8 (.ofNat n_6)))
    (H8 : arith .or .u8 (.ofNat 128) (.ofNat n_6) = some (.int .u8 (.ofNat n_7)))
    (H9 : appendA Tryz.prog (AHeap.push h (AObj.cells [AV.int IntKind.u8 (Int.ofNat n_4), AV.int IntKind.u8 (Int.ofNat n_7)] 5 BK.own 0 0)) 22 (some 22) v (AV.slice (AHeap.n h) 0 2 (Cap.exact 2)) = some (AV.slice c 0 m (Cap.opn 1), g)) :
    RunF Tryz.prog Tryz.f196 none call [] (SSt.mk [(0, v), (1, .int .i32 (.ofNat r))] [] .none h) (.ret)
      (SSt.mk [(4, .slice c 0 m (.opn 1))] [] .none g) :=
  sxF_run [4] (hs := [.v (.int .u32 (.ofNat n_1)), .b true, .v (.int .i32 (.ofNat n_2)), .v (.int .u8 (.ofNat n_3)), .v (.int .u8 (.ofNat n_4)), .v (.int .u8 (.ofNat n_5)), .v (.int .u8 (.ofNat n_6)), .v (.int .u8 (.ofNat n_7)), .vh (.slice c 0 m (.opn 1)) g]) (by kernel_rfl) <| .cons H1 <| .cons H2 <| .cons H3 <| .cons H4 <| .cons H5 <| .cons H6 <| .cons H7 <| .cons H8 <| .cons H9 <| .nil
theorem an3a (call : CallT → List AV → AHeap → FRes) (r c m : Nat) (v : AV) (h g : AHeap) (n_1 n_2 n_3 n_4 n_5 n_6 n_7 n_8 n_9 n_10 n_11 : Nat)
    (H1 : evConvert Tryz.prog 21 169 (AV.int IntKind.i32 (Int.ofNat r)) h = OpRes.val (AV.int IntKind.u32 (Int.ofNat n_1)) h)
    (H2 : leI (.ofNat n_1) (.ofNat 2047) = false)
    (H3 : ltI (.ofNat n_1) (.ofNat 55296) = true)
    (H4 : shiftA .shr .i32 (.ofNat r) (.ofNat 12) = some (.int .i32 (.ofNat n_2)))
    (H5 : evConvert Tryz.prog 21 5 (AV.int IntKind.i32 (Int.ofNat n_2)) h = OpRes.val (AV.int IntKind.u8 (Int.ofNat n_3)) h)
    (H6 : arith .or .u8 (.ofNat 224) (.ofNat n_3) = some (.int .u8 (.ofNat n_4)))
    (H7 : shiftA .shr .i32 (.ofNat r) (.ofNat 6) = some (.int .i32 (.ofNat n_5)))
    (H8 : evConvert Tryz.prog 21 5 (AV.int IntKind.i32 (Int.ofNat n_5)) h = OpRes.val (AV.int IntKind.u8 (Int.ofNat n_6)) h)
    (H9 : arith .and .u8 (.ofNat n_6) (.ofNat 63) = some (.int .u8 (.ofNat n_7)))
    (H10 : arith .or .u8 (.ofNat 128) (.ofNat n_7) = some (.int .u8 (.ofNat n_8)))
    (H11 : evConvert Tryz.prog 21 5 (AV.int IntKind.i32 (Int.ofNat r)) h = OpRes.val (AV.int IntKind.u8 (Int.ofNat n_9)) h)
    (H12 : arith .and .u8 (.ofNat n_9) (.ofNat 63) = some (.int .u8 (.ofNat n_10)))
    (H13 : arith .or .u8 (.ofNat 128) (.ofNat n_10) = some (.int .u8 (.ofNat n_11)))
    (H14 : appendA Tryz.prog (AHeap.push h (AObj.cells [AV.int IntKind.u8 (Int.ofNat n_4), AV.int IntKind.u8 (Int.ofNat n_8), AV.int IntKind.u8 (Int.ofNat n_11)] 5 BK.own 0 0)) 22 (some 22) v (AV.slice (AHeap.n h) 0 3 (Cap.exact 3)) = some (AV.slice c 0 m (Cap.opn 1), g)) :
    RunF Tryz.prog Tryz.f196 none call [] (SSt.mk [(0, v), (1, .int .i32 (.ofNat r))] [] .none h) (.ret)
      (SSt.mk [(4, .slice c 0 m (.opn 1))] [] .none g) :=
  sxF_run [4] (hs := [.v (.int .u32 (.ofNat n_1)), .b false, .b true, .b true, .v (.int .i32 (.ofNat n_2)), .v (.int .u8 (.ofNat n_3)), .v (.int .u8 (.ofNat n_4)), .v (.int .i32 (.ofNat n_5)), .v (.int .u8 (.ofNat n_6)), .v (.int .u8 (.ofNat n_7)), .v (.int .u8 (.ofNat n_8)), .v (.int .u8 (.ofNat n_9)), .v (.int .u8 (.ofNat n_10)), .v (.int .u8 (.ofNat n_11)), .vh (.slice c 0 m (.opn 1)) g]) (by kernel_rfl) <| .cons H1 <| .cons H2 <| .cons H3 <| .cons H3 <| .cons H4 <| .cons H5 <| .cons H6 <| .cons H7 <| .cons H8 <| .cons H9 <| .cons H10 <| .cons H11 <| .cons H12 <| .cons H13 <| .cons H14 <| .nil
theorem an3b (call : CallT → List AV → AHeap → FRes) (r c m : Nat) (v : AV) (h g : AHeap) (n_1 n_2 n_3 n_4 n_5 n_6 n_7 n_8 n_9 n_10 n_11 : Nat)
    (H1 : evConvert Tryz.prog 21 169 (AV.int IntKind.i32 (Int.ofNat r)) h = OpRes.val (AV.int IntKind.u32 (Int.ofNat n_1)) h)
    (H2 : leI (.ofNat n_1) (.ofNat 2047) = false)
    (H3 : ltI (.ofNat n_1) (.ofNat 55296) = false)
    (H4 : ltI (.ofNat 57343) (.ofNat n_1) = true)
    (H5 : leI (.ofNat n_1) (.ofNat 65535) = true)
    (H6 : shiftA .shr .i32 (.ofNat r) (.ofNat 12) = some (.int .i32 (.ofNat n_2)))
    (H7 : evConvert Tryz.prog 21 5 (AV.int IntKind.i32 (Int.ofNat n_2)) h = OpRes.val (AV.int IntKind.u8 (Int.ofNat n_3)) h)
    (H8 : arith .or .u8 (.ofNat 224) (.ofNat n_3) = some (.int .u8 (.ofNat n_4)))
    (H9 : shiftA .shr .i32 (.ofNat r) (.ofNat 6) = some (.int .i32 (.ofNat n_5)))
    (H10 : evConvert Tryz.prog 21 5 (AV.int IntKind.i32 (Int.ofNat n_5)) h = OpRes.val (AV.int IntKind.u8 (Int.ofNat n_6)) h)
    (H11 : arith .and .u8 (.ofNat n_6) (.ofNat 63) = some (.int .u8 (.ofNat n_7)))
    (H12 : arith .or .u8 (.ofNat 128) (.ofNat n_7) = some (.int .u8 (.ofNat n_8)))
    (H13 : evConvert Tryz.prog 21 5 (AV.int IntKind.i32 (Int.ofNat r)) h = OpRes.val (AV.int IntKind.u8 (Int.ofNat n_9)) h)
    (H14 : arith .and .u8 (.ofNat n_9) (.ofNat 63) = some (.int .u8 (.ofNat n_10)))
    (H15 : arith .or .u8 (.ofNat 128) (.ofNat n_10) = some (.int .u8 (.ofNat n_11)))
    (H16 : appendA Tryz.prog (AHeap.push h (AObj.cells [AV.int IntKind.u8 (Int.ofNat n_4), AV.int IntKind.u8 (Int.ofNat n_8), AV.int IntKind.u8 (Int.ofNat n_11)] 5 BK.own 0 0)) 22 (some 22) v (AV.slice (AHeap.n h) 0 3 (Cap.exact 3)) = some (AV.slice c 0 m (Cap.opn 1), g)) :
    RunF Tryz.prog Tryz.f196 none call [] (SSt.mk [(0, v), (1, .int .i32 (.ofNat r))] [] .none h) (.ret)
      (SSt.mk [(4, .slice c 0 m (.opn 1))] [] .none g) :=
  sxF_run [4] (hs := [.v (.int .u32 (.ofNat n_1)), .b false, .b false, .b true, .b true, .b true, .b true, .v (.int .i32 (.ofNat n_2)), .v (.int .u8 (.ofNat n_3)), .v (.int .u8 (.ofNat n_4)), .v (.int .i32 (.ofNat n_5)), .v (.int .u8 (.ofNat n_6)), .v (.int .u8 (.ofNat n_7)), .v (.int .u8 (.ofNat n_8)), .v (.int .u8 (.ofNat n_9)), .v (.int .u8 (.ofNat n_10)), .v (.int .u8 (.ofNat n_11)), .vh (.slice c 0 m (.opn 1)) g]) (by kernel_rfl) <| .cons H1 <| .cons H2 <| .cons H3 <| .cons H4 <| .cons H4 <| .cons H4 <| .cons H5 <| .cons H6 <| .cons H7 <| .cons H8 <| .cons H9 <| .cons H10 <| .cons H11 <| .cons H12 <| .cons H13 <| .cons H14 <| .cons H15 <| .cons H16 <| .nil
theorem an4 (call : CallT → List AV → AHeap → FRes) (r c m : Nat) (v : AV) (h g : AHeap) (n_1 n_2 n_3 n_4 n_5 n_6 n_7 n_8 n_9 n_10 n_11 n_12 n_13 n_14 n_15 : Nat)
    (H1 : evConvert Tryz.prog 21 169 (AV.int IntKind.i32 (Int.ofNat r)) h = OpRes.val (AV.int IntKind.u32 (Int.ofNat n_1)) h)
    (H2 : leI (.ofNat n_1) (.ofNat 2047) = false)
    (H3 : ltI (.ofNat n_1) (.ofNat 55296) = false)
    (H4 : ltI (.ofNat 57343) (.ofNat n_1) = true)
    (H5 : leI (.ofNat n_1) (.ofNat 65535) = false)
    (H6 : ltI (.ofNat 65535) (.ofNat n_1) = true)
    (H7 : leI (.ofNat n_1) (.ofNat 1114111) = true)
    (H8 : shiftA .shr .i32 (.ofNat r) (.ofNat 18) = some (.int .i32 (.ofNat n_2)))
    (H9 : evConvert Tryz.prog 21 5 (AV.int IntKind.i32 (Int.ofNat n_2)) h = OpRes.val (AV.int IntKind.u8 (Int.ofNat n_3)) h)
    (H10 : arith .or .u8 (.ofNat 240) (.ofNat n_3) = some (.int .u8 (.ofNat n_4)))
    (H11 : shiftA .shr .i32 (.ofNat r) (.ofNat 12) = some (.int .i32 (.ofNat n_5)))
    (H12 : evConvert Tryz.prog 21 5 (AV.int IntKind.i32 (Int.ofNat n_5)) h = OpRes.val (AV.int IntKind.u8 (Int.ofNat n_6)) h)
    (H13 : arith .and .u8 (.ofNat n_6) (.ofNat 63) = some (.int .u8 (.ofNat n_7)))
    (H14 : arith .or .u8 (.ofNat 128) (.ofNat n_7) = some (.int .u8 (.ofNat n_8)))
    (H15 : shiftA .shr .i32 (.ofNat r) (.ofNat 6) = some (.int .i32 (.ofNat n_9)))
    (H16 : evConvert Tryz.prog 21 5 (AV.int IntKind.i32 (Int.ofNat n_9)) h = OpRes.val (AV.int IntKind.u8 (Int.ofNat n_10)) h)
    (H17 : arith .and .u8 (.ofNat n_10) (.ofNat 63) = some (.int .u8 (.ofNat n_11)))
    (H18 : arith .or .u8 (.ofNat 128) (.ofNat n_11) = some (.int .u8 (.ofNat n_12)))
    (H19 : evConvert Tryz.prog 21 5 (AV.int IntKind.i32 (Int.ofNat r)) h = OpRes.val (AV.int IntKind.u8 (Int.ofNat n_13)) h)
    (H20 : arith .and .u8 (.ofNat n_13) (.ofNat 63) = some (.int .u8 (.ofNat n_14)))
    (H21 : arith .or .u8 (.ofNat 128) (.ofNat n_14) = some (.int .u8 (.ofNat n_15)))
    (H22 : appendA Tryz.prog (AHeap.push h (AObj.cells [AV.int IntKind.u8 (Int.ofNat n_4), AV.int IntKind.u8 (Int.ofNat n_8), AV.int IntKind.u8 (Int.ofNat n_12), AV.int IntKind.u8 (Int.ofNat n_15)] 5 BK.own 0 0)) 22 (some 22) v (AV.slice (AHeap.n h) 0 4 (Cap.exact 4)) = some (AV.slice c 0 m (Cap.opn 1), g)) :
    RunF Tryz.prog Tryz.f196 none call [] (SSt.mk [(0, v), (1, .int .i32 (.ofNat r))] [] .none h) (.ret)
      (SSt.mk [(4, .slice c 0 m (.opn 1))] [] .none g) :=
  sxF_run [4] (hs := [.v (.int .u32 (.ofNat n_1)), .b false, .b false, .b true, .b true, .b true, .b false, .b true, .b true, .b true, .b true, .v (.int .i32 (.ofNat n_2)), .v (.int .u8 (.ofNat n_3)), .v (.int .u8 (.ofNat n_4)), .v (.int .i32 (.ofNat n_5)), .v (.int .u8 (.ofNat n_6)), .v (.int .u8 (.ofNat n_7)), .v (.int .u8 (.ofNat n_8)), .v (.int .i32 (.ofNat n_9)), .v (.int .u8 (.ofNat n_10)), .v (.int .u8 (.ofNat n_11)), .v (.int .u8 (.ofNat n_12)), .v (.int .u8 (.ofNat n_13)), .v (.int .u8 (.ofNat n_14)), .v (.int .u8 (.ofNat n_15)), .vh (.slice c 0 m (.opn 1)) g]) (by kernel_rfl) <| .cons H1 <| .cons H2 <| .cons H3 <| .cons H4 <| .cons H4 <| .cons H4 <| .cons H5 <| .cons H6 <| .cons H6 <| .cons H6 <| .cons H7 <| .cons H8 <| .cons H9 <| .cons H10 <| .cons H11 <| .cons H12 <| .cons H13 <| .cons H14 <| .cons H15 <| .cons H16 <| .cons H17 <| .cons H18 <| .cons H19 <| .cons H20 <| .cons H21 <| .cons H22 <| .nil
theorem ixb (call : CallT → List AV → AHeap → FRes) (s : List UInt8) (c : Nat) (x : Int) (h g : AHeap)
    (H1 : call (.fn 195) [.str s, .int .u8 (.ofNat c)] h = FRes.ret (.int .i64 x) g) :
    RunF Tryz.prog Tryz.f175 none call [] (SSt.mk [(0, .str s), (1, .int .u8 (.ofNat c))] [] .none h) (.ret)
      (SSt.mk [(4, .int .i64 x)] [] .none g) :=
  sxF_run [4] (hs := [.c (.int .i64 x) g]) (by kernel_rfl) <| .cons H1 <| .nil
theorem vru_1 (call : CallT → List AV → AHeap → FRes) (r : Nat) (h : AHeap)
    (H1 : ltI (.ofNat r) (.ofNat 55296) = true) :
    RunF Tryz.prog Tryz.f176 none call [] (SSt.mk [(0, .int .i32 (.ofNat r))] [] .none h) (.ret)
      (SSt.mk [(2, .bool true)] [] .none h) :=
  sxF_run [2] (hs := [.b true, .b true, .b true, .b true]) (by kernel_rfl) <| .cons (by kernel_rfl : leI (Int.ofNat 0) (Int.ofNat r) = true) <| .cons (by kernel_rfl : leI (Int.ofNat 0) (Int.ofNat r) = true) <| .cons (by kernel_rfl : leI (Int.ofNat 0) (Int.ofNat r) = true) <| .cons H1 <| .nil
theorem vru_2 (call : CallT → List AV → AHeap → FRes) (r : Nat) (h : AHeap)
    (H1 : ltI (.ofNat r) (.ofNat 55296) = false)
    (H2 : ltI (.ofNat 57343) (.ofNat r) = true)
    (H3 : leI (.ofNat r) (.ofNat 1114111) = true) :
    RunF Tryz.prog Tryz.f176 none call [] (SSt.mk [(0, .int .i32 (.ofNat r))] [] .none h) (.ret)
      (SSt.mk [(2, .bool true)] [] .none h) :=
  sxF_run [2] (hs := [.b true, .b true, .b true, .b false, .b true, .b true, .b true, .b true]) (by kernel_rfl) <| .cons (by kernel_rfl : leI (Int.ofNat 0) (Int.ofNat r) = true) <| .cons (by kernel_rfl : leI (Int.ofNat 0) (Int.ofNat r) = true) <| .cons (by kernel_rfl : leI (Int.ofNat 0) (Int.ofNat r) = true) <| .cons H1 <| .cons H2 <| .cons H2 <| .cons H2 <| .cons H3 <| .nil
theorem ixa (call : CallT → List AV → AHeap → FRes) (s : List UInt8) (r c : Nat) (x : Int) (h g : AHeap)
    (H1 : ltI (.ofNat r) (.ofNat 128) = true)
    (H2 : evConvert Tryz.prog 21 5 (AV.int IntKind.i32 (Int.ofNat r)) h = OpRes.val (AV.int IntKind.u8 (Int.ofNat c)) h)
    (H3 : call (.fn 175) [.str s, .int .u8 (.ofNat c)] h = FRes.ret (.int .i64 x) g) :
    RunF Tryz.prog Tryz.f146 none call [] (SSt.mk [(0, .str s), (1, .int .i32 (.ofNat r))] [] .none h) (.ret)
      (SSt.mk [(4, .int .i64 x)] [] .none g) :=
  sxF_run [4] (hs := [.b true, .b true, .b true, .b true, .v (.int .u8 (.ofNat c)), .c (.int .i64 x) g]) (by kernel_rfl) <| .cons (by kernel_rfl : leI (Int.ofNat 0) (Int.ofNat r) = true) <| .cons (by kernel_rfl : leI (Int.ofNat 0) (Int.ofNat r) = true) <| .cons (by kernel_rfl : leI (Int.ofNat 0) (Int.ofNat r) = true) <| .cons H1 <| .cons H2 <| .cons H3 <| .nil
theorem ixe (call : CallT → List AV → AHeap → FRes) (s : List UInt8) (r : Nat) (h g : AHeap)
    (H1 : ltI (.ofNat r) (.ofNat 128) = false)
    (H2 : eqI (.ofNat r) (.ofNat 65533) = true)
    (H3 : RunF Tryz.prog Tryz.f146 none call [1, 0, 1, 1, 1, 0, 0, 1, 0] (SSt.mk [(175, .ptr (AHeap.n h) 0), (171, .bool (eqI (.ofNat r) (.ofNat 65533))), (160, .bool (ltI (.ofNat r) (.ofNat 128))), (4, .int .i64 (.ofNat 0)), (0, .str s), (1, .int .i32 (.ofNat r))] [] .none (AHeap.push h (.strIter s 0))) (.exit 9) (SSt.mk [] [] .none g)) :
    RunF Tryz.prog Tryz.f146 none call [] (SSt.mk [(0, .str s), (1, .int .i32 (.ofNat r))] [] .none h) (.ret)
      (SSt.mk [(4, .int .i64 (.negSucc 0))] [] .none g) :=
  sxF_run [4] (hs := [Hint.b true, Hint.b true, Hint.b true, Hint.b false, Hint.b true, Hint.loop (AEx.exit 9) (SSt.mk [] [] Rc.none g)]) (by kernel_rfl) <| .cons (by kernel_rfl : leI (Int.ofNat 0) (Int.ofNat r) = true) <| .cons (by kernel_rfl : leI (Int.ofNat 0) (Int.ofNat r) = true) <| .cons (by kernel_rfl : leI (Int.ofNat 0) (Int.ofNat r) = true) <| .cons H1 <| .cons H2 <| .cons H3 <| .nil
theorem ixel (call : CallT → List AV → AHeap → FRes) (s : List UInt8) (it i c : Nat) (h g : AHeap)
    (H1 : nextA h (AV.ptr it 0) true = some (AV.tup [AV.bool true, AV.int IntKind.i64 (Int.ofNat i), AV.int IntKind.i32 (Int.ofNat c)], g))
    (H2 : eqI (.ofNat c) (.ofNat 65533) = false) :
    RunF Tryz.prog Tryz.f146 none call [1, 0, 1, 1, 1, 0, 0, 1, 0, 0] (SSt.mk [(175, .ptr it 0)] [] .none h) (.nrm)
      (SSt.mk [(175, .ptr it 0)] [] .none g) :=
  sxF_run [0, 4, 175] (hs := [.vh (.tup [.bool true, .int .i64 (.ofNat i), .int .i32 (.ofNat c)]) g, .b true, .b false]) (by kernel_rfl) <| .cons H1 <| .cons (by kernel_rfl : true = true) <| .cons H2 <| .nil
theorem ixex (call : CallT → List AV → AHeap → FRes) (s : List UInt8) (it : Nat) (h g : AHeap)
    (H1 : nextA h (AV.ptr it 0) true = some (AV.tup [AV.bool false], g)) :
    RunF Tryz.prog Tryz.f146 none call [1, 0, 1, 1, 1, 0, 0, 1, 0, 0] (SSt.mk [(175, .ptr it 0)] [] .none h) (.exit 9)
      (SSt.mk [(175, .ptr it 0)] [] .none g) :=
  sxF_run [0, 4, 175] (hs := [.vh (.tup [.bool false]) g, .b false]) (by kernel_rfl) <| .cons H1 <| .cons (by kernel_rfl : false = false) <| .nil
theorem ixA2 (call : CallT → List AV → AHeap → FRes) (r : Nat) (a b : UInt8) (h : AHeap)
    (H1 : evConvert Tryz.prog 21 9 (AV.int IntKind.i32 (Int.ofNat r)) h = OpRes.val (AV.str [a, b]) h) :
    RunF Tryz.prog Tryz.f146 none call [1, 0, 1, 1, 1, 1, 1, 1, 0, 0] (SSt.mk [(0, .str [34, 92, 110]), (1, .int .i32 (.ofNat r))] [] .none h) (.nrm)
      (SSt.mk [(0, .str [34, 92, 110]), (7, .str [a, b])] [] .none h) :=
  sxF_run [0, 7, 8, 9, 10] (hs := [.v (.str [a, b])]) (by kernel_rfl) <| .cons H1 <| .nil
theorem ixB2 (call : CallT → List AV → AHeap → FRes) (r : Nat) (a b : UInt8) (h : AHeap) :
    RunF Tryz.prog Tryz.f146 none call [1, 0, 1, 1, 1, 1, 1, 1, 0, 1, 0] (SSt.mk [(0, .str [34, 92, 110]), (7, .str [a, b])] [] .none h) (.nrm)
      (SSt.mk [(0, .str [34, 92, 110]), (7, .str [a, b]), (8, .int .i64 (.ofNat 1))] [] .none h) :=
  sxF_run [0, 7, 8, 9, 10] (hs := [.v (.int .i64 (.ofNat 1))]) (by kernel_rfl) <| .cons (by kernel_rfl : arith BinOp.sub IntKind.i64 (Int.ofNat 2) (Int.ofNat 1) = some (AV.int IntKind.i64 (Int.ofNat 1))) <| .nil
theorem ixC2 (call : CallT → List AV → AHeap → FRes) (r : Nat) (a b : UInt8) (h g : AHeap) (n_1 n_2 : Nat) (t_1 : List UInt8)
    (H1 : idxS 1 [34, 92, 110] = some (.int .u8 (.ofNat n_1)))
    (H2 : idxS 1 [a, b] = some (.int .u8 (.ofNat n_2)))
    (H3 : (!eqI (.ofNat n_1) (.ofNat n_2)) = true)
    (H4 : sliceA Tryz.prog (AHeap.room (AHeap.room h 7) 9) 9 (AV.str [34, 92, 110]) (some (AV.int IntKind.i64 (Int.ofNat 2))) none none = some (AV.str t_1))
    (H5 : call (.fn 175) [.str t_1, .int .u8 (.ofNat n_2)] (AHeap.room (AHeap.room h 7) 9) = FRes.ret (.int .i64 (.negSucc 0)) g) :
    RunF Tryz.prog Tryz.f146 none call [1, 0, 1, 1, 1, 1, 1, 1, 0, 1, 1, 1, 1, 0, 0, 0] (SSt.mk [(0, .str [34, 92, 110]), (7, .str [a, b]), (8, .int .i64 (.ofNat 1)), (9, .int .i64 (.ofNat 1)), (10, .int .i64 (.ofNat 0))] [] .none h) (.ret)
      (SSt.mk [(0, .str [34, 92, 110]), (4, .int .i64 (.negSucc 0)), (7, .str [a, b]), (8, .int .i64 (.ofNat 1)), (9, .int .i64 (.ofNat 1)), (10, .int .i64 (.ofNat 0))] [] .none g) :=
  sxF_run [0, 4, 7, 8, 9, 10] (hs := [.b true, .v (.int .u8 (.ofNat n_1)), .v (.int .u8 (.ofNat n_2)), .b true, .v (.int .i64 (.ofNat 2)), .v (.str t_1), .v (.int .u8 (.ofNat n_2)), .c (.int .i64 (-1)) g, .b true]) (by kernel_rfl) <| .cons (by kernel_rfl : ltI (Int.ofNat 1) (Int.ofNat 3) = true) <| .cons H1 <| .cons H2 <| .cons (by kernel_rfl : AV.sound (AV.str [34, 92, 110]) = true) <| .cons (by kernel_rfl : AV.str [34, 92, 110] = AV.str [34, 92, 110]) <| .cons (by kernel_rfl : AV.sound (AV.int IntKind.i64 (Int.ofNat 1)) = true) <| .cons (by kernel_rfl : AV.int IntKind.i64 (Int.ofNat 1) = AV.int IntKind.i64 (Int.ofNat 1)) <| .cons (by kernel_rfl : AV.sound (AV.int IntKind.u8 (Int.ofNat n_1)) = true) <| .cons H1 <| .cons (by kernel_rfl : AV.sound (AV.str [a, b]) = true) <| .cons (by kernel_rfl : AV.str [a, b] = AV.str [a, b]) <| .cons (by kernel_rfl : AV.sound (AV.int IntKind.i64 (Int.ofNat 1)) = true) <| .cons (by kernel_rfl : AV.int IntKind.i64 (Int.ofNat 1) = AV.int IntKind.i64 (Int.ofNat 1)) <| .cons (by kernel_rfl : AV.sound (AV.int IntKind.u8 (Int.ofNat n_2)) = true) <| .cons H2 <| .cons (by kernel_rfl : AV.sound (AV.bool !eqI (Int.ofNat n_1) (Int.ofNat n_2)) = true) <| .cons (by kernel_rfl : (AV.bool !eqI (Int.ofNat n_1) (Int.ofNat n_2)) = AV.bool !eqI (Int.ofNat n_1) (Int.ofNat n_2)) <| .cons H3 <| .cons (by kernel_rfl : arith BinOp.add IntKind.i64 (Int.ofNat 1) (Int.ofNat 1) = some (AV.int IntKind.i64 (Int.ofNat 2))) <| .cons H4 <| .cons H2 <| .cons H5 <| .cons (by kernel_rfl : AV.sound (AV.str [34, 92, 110]) = true) <| .cons (by kernel_rfl : AV.str [34, 92, 110] = AV.str [34, 92, 110]) <| .cons (by kernel_rfl : AV.sound (AV.int IntKind.i64 (Int.ofNat 1)) = true) <| .cons (by kernel_rfl : AV.int IntKind.i64 (Int.ofNat 1) = AV.int IntKind.i64 (Int.ofNat 1)) <| .cons (by kernel_rfl : AV.sound (AV.int IntKind.i64 (Int.ofNat 2)) = true) <| .cons (by kernel_rfl : arith BinOp.add IntKind.i64 (Int.ofNat 1) (Int.ofNat 1) = some (AV.int IntKind.i64 (Int.ofNat 2))) <| .cons (by kernel_rfl : AV.sound (AV.str t_1) = true) <| .cons H4 <| .cons (by kernel_rfl : AV.sound (AV.str [a, b]) = true) <| .cons (by kernel_rfl : AV.str [a, b] = AV.str [a, b]) <| .cons (by kernel_rfl : AV.sound (AV.int IntKind.i64 (Int.ofNat 1)) = true) <| .cons (by kernel_rfl : AV.int IntKind.i64 (Int.ofNat 1) = AV.int IntKind.i64 (Int.ofNat 1)) <| .cons (by kernel_rfl : AV.sound (AV.int IntKind.u8 (Int.ofNat n_2)) = true) <| .cons H2 <| .cons (by kernel_rfl : AV.sound (AV.int IntKind.i64 (Int.negSucc 0)) = true) <| .cons (by kernel_rfl : AV.int IntKind.i64 (Int.negSucc 0) = AV.int IntKind.i64 (Int.negSucc 0)) <| .cons (by kernel_rfl : ltI (Int.negSucc 0) (Int.ofNat 0) = true) <| .nil
theorem ixA3 (call : CallT → List AV → AHeap → FRes) (r : Nat) (a b c : UInt8) (h : AHeap)
    (H1 : evConvert Tryz.prog 21 9 (AV.int IntKind.i32 (Int.ofNat r)) h = OpRes.val (AV.str [a, b, c]) h) :
    RunF Tryz.prog Tryz.f146 none call [1, 0, 1, 1, 1, 1, 1, 1, 0, 0] (SSt.mk [(0, .str [34, 92, 110]), (1, .int .i32 (.ofNat r))] [] .none h) (.nrm)
      (SSt.mk [(0, .str [34, 92, 110]), (7, .str [a, b, c])] [] .none h) :=
  sxF_run [0, 7, 8, 9, 10] (hs := [.v (.str [a, b, c])]) (by kernel_rfl) <| .cons H1 <| .nil
theorem ixB3 (call : CallT → List AV → AHeap → FRes) (r : Nat) (a b c : UInt8) (h : AHeap) :
    RunF Tryz.prog Tryz.f146 none call [1, 0, 1, 1, 1, 1, 1, 1, 0, 1, 0] (SSt.mk [(0, .str [34, 92, 110]), (7, .str [a, b, c])] [] .none h) (.nrm)
      (SSt.mk [(0, .str [34, 92, 110]), (7, .str [a, b, c]), (8, .int .i64 (.ofNat 2))] [] .none h) :=
  sxF_run [0, 7, 8, 9, 10] (hs := [.v (.int .i64 (.ofNat 2))]) (by kernel_rfl) <| .cons (by kernel_rfl : arith BinOp.sub IntKind.i64 (Int.ofNat 3) (Int.ofNat 1) = some (AV.int IntKind.i64 (Int.ofNat 2))) <| .nil
theorem ixC3 (call : CallT → List AV → AHeap → FRes) (r : Nat) (a b c : UInt8) (h g : AHeap) (n_1 n_2 : Nat) (t_1 : List UInt8)
    (H1 : idxS 2 [34, 92, 110] = some (.int .u8 (.ofNat n_1)))
    (H2 : idxS 2 [a, b, c] = some (.int .u8 (.ofNat n_2)))
    (H3 : (!eqI (.ofNat n_1) (.ofNat n_2)) = true)
    (H4 : sliceA Tryz.prog (AHeap.room (AHeap.room h 7) 9) 9 (AV.str [34, 92, 110]) (some (AV.int IntKind.i64 (Int.ofNat 3))) none none = some (AV.str t_1))
    (H5 : call (.fn 175) [.str t_1, .int .u8 (.ofNat n_2)] (AHeap.room (AHeap.room h 7) 9) = FRes.ret (.int .i64 (.negSucc 0)) g) :
    RunF Tryz.prog Tryz.f146 none call [1, 0, 1, 1, 1, 1, 1, 1, 0, 1, 1, 1, 1, 0, 0, 0] (SSt.mk [(0, .str [34, 92, 110]), (7, .str [a, b, c]), (8, .int .i64 (.ofNat 2)), (9, .int .i64 (.ofNat 2)), (10, .int .i64 (.ofNat 0))] [] .none h) (.ret)
      (SSt.mk [(0, .str [34, 92, 110]), (4, .int .i64 (.negSucc 0)), (7, .str [a, b, c]), (8, .int .i64 (.ofNat 2)), (9, .int .i64 (.ofNat 2)), (10, .int .i64 (.ofNat 0))] [] .none g) :=
  sxF_run [0, 4, 7, 8, 9, 10] (hs := [.b true, .v (.int .u8 (.ofNat n_1)), .v (.int .u8 (.ofNat n_2)), .b true, .v (.int .i64 (.ofNat 3)), .v (.str t_1), .v (.int .u8 (.ofNat n_2)), .c (.int .i64 (-1)) g, .b true]) (by kernel_rfl) <| .cons (by kernel_rfl : ltI (Int.ofNat 2) (Int.ofNat 3) = true) <| .cons H1 <| .cons H2 <| .cons (by kernel_rfl : AV.sound (AV.str [34, 92, 110]) = true) <| .cons (by kernel_rfl : AV.str [34, 92, 110] = AV.str [34, 92, 110]) <| .cons (by kernel_rfl : AV.sound (AV.int IntKind.i64 (Int.ofNat 2)) = true) <| .cons (by kernel_rfl : AV.int IntKind.i64 (Int.ofNat 2) = AV.int IntKind.i64 (Int.ofNat 2)) <| .cons (by kernel_rfl : AV.sound (AV.int IntKind.u8 (Int.ofNat n_1)) = true) <| .cons H1 <| .cons (by kernel_rfl : AV.sound (AV.str [a, b, c]) = true) <| .cons (by kernel_rfl : AV.str [a, b, c] = AV.str [a, b, c]) <| .cons (by kernel_rfl : AV.sound (AV.int IntKind.i64 (Int.ofNat 2)) = true) <| .cons (by kernel_rfl : AV.int IntKind.i64 (Int.ofNat 2) = AV.int IntKind.i64 (Int.ofNat 2)) <| .cons (by kernel_rfl : AV.sound (AV.int IntKind.u8 (Int.ofNat n_2)) = true) <| .cons H2 <| .cons (by kernel_rfl : AV.sound (AV.bool !eqI (Int.ofNat n_1) (Int.ofNat n_2)) = true) <| .cons (by kernel_rfl : (AV.bool !eqI (Int.ofNat n_1) (Int.ofNat n_2)) = AV.bool !eqI (Int.ofNat n_1) (Int.ofNat n_2)) <| .cons H3 <| .cons (by kernel_rfl : arith BinOp.add IntKind.i64 (Int.ofNat 2) (Int.ofNat 1) = some (AV.int IntKind.i64 (Int.ofNat 3))) <| .cons H4 <| .cons H2 <| .cons H5 <| .cons (by kernel_rfl : AV.sound (AV.str [34, 92, 110]) = true) <| .cons (by kernel_rfl : AV.str [34, 92, 110] = AV.str [34, 92, 110]) <| .cons (by kernel_rfl : AV.sound (AV.int IntKind.i64 (Int.ofNat 2)) = true) <| .cons (by kernel_rfl : AV.int IntKind.i64 (Int.ofNat 2) = AV.int IntKind.i64 (Int.ofNat 2)) <| .cons (by kernel_rfl : AV.sound (AV.int IntKind.i64 (Int.ofNat 3)) = true) <| .cons (by kernel_rfl : arith BinOp.add IntKind.i64 (Int.ofNat 2) (Int.ofNat 1) = some (AV.int IntKind.i64 (Int.ofNat 3))) <| .cons (by kernel_rfl : AV.sound (AV.str t_1) = true) <| .cons H4 <| .cons (by kernel_rfl : AV.sound (AV.str [a, b, c]) = true) <| .cons (by kernel_rfl : AV.str [a, b, c] = AV.str [a, b, c]) <| .cons (by kernel_rfl : AV.sound (AV.int IntKind.i64 (Int.ofNat 2)) = true) <| .cons (by kernel_rfl : AV.int IntKind.i64 (Int.ofNat 2) = AV.int IntKind.i64 (Int.ofNat 2)) <| .cons (by kernel_rfl : AV.sound (AV.int IntKind.u8 (Int.ofNat n_2)) = true) <| .cons H2 <| .cons (by kernel_rfl : AV.sound (AV.int IntKind.i64 (Int.negSucc 0)) = true) <| .cons (by kernel_rfl : AV.int IntKind.i64 (Int.negSucc 0) = AV.int IntKind.i64 (Int.negSucc 0)) <| .cons (by kernel_rfl : ltI (Int.negSucc 0) (Int.ofNat 0) = true) <| .nil
theorem ixA4 (call : CallT → List AV → AHeap → FRes) (r : Nat) (a b c d : UInt8) (h : AHeap)
    (H1 : evConvert Tryz.prog 21 9 (AV.int IntKind.i32 (Int.ofNat r)) h = OpRes.val (AV.str [a, b, c, d]) h) :
    RunF Tryz.prog Tryz.f146 none call [1, 0, 1, 1, 1, 1, 1, 1, 0, 0] (SSt.mk [(0, .str [34, 92, 110]), (1, .int .i32 (.ofNat r))] [] .none h) (.nrm)
      (SSt.mk [(0, .str [34, 92, 110]), (7, .str [a, b, c, d])] [] .none h) :=
  sxF_run [0, 7, 8, 9, 10] (hs := [.v (.str [a, b, c, d])]) (by kernel_rfl) <| .cons H1 <| .nil
theorem ixB4 (call : CallT → List AV → AHeap → FRes) (r : Nat) (a b c d : UInt8) (h : AHeap) :
    RunF Tryz.prog Tryz.f146 none call [1, 0, 1, 1, 1, 1, 1, 1, 0, 1, 0] (SSt.mk [(0, .str [34, 92, 110]), (7, .str [a, b, c, d])] [] .none h) (.nrm)
      (SSt.mk [(0, .str [34, 92, 110]), (7, .str [a, b, c, d]), (8, .int .i64 (.ofNat 3))] [] .none h) :=
  sxF_run [0, 7, 8, 9, 10] (hs := [.v (.int .i64 (.ofNat 3))]) (by kernel_rfl) <| .cons (by kernel_rfl : arith BinOp.sub IntKind.i64 (Int.ofNat 4) (Int.ofNat 1) = some (AV.int IntKind.i64 (Int.ofNat 3))) <| .nil
theorem ixC4 (call : CallT → List AV → AHeap → FRes) (r : Nat) (a b c d : UInt8) (h g : AHeap) :
    RunF Tryz.prog Tryz.f146 none call [1, 0, 1, 1, 1, 1, 1, 1, 0, 1, 1, 1, 1, 0, 0, 0] (SSt.mk [(0, .str [34, 92, 110]), (7, .str [a, b, c, d]), (8, .int .i64 (.ofNat 3)), (9, .int .i64 (.ofNat 3)), (10, .int .i64 (.ofNat 0))] [] .none h) (.exit 1)
      (SSt.mk [(0, .str [34, 92, 110]), (7, .str [a, b, c, d]), (8, .int .i64 (.ofNat 3)), (9, .int .i64 (.ofNat 3)), (10, .int .i64 (.ofNat 0))] [] .none h) :=
  sxF_run [0, 4, 7, 8, 9, 10] (hs := [.b false]) (by kernel_rfl) <| .cons (by kernel_rfl : ltI (Int.ofNat 3) (Int.ofNat 3) = false) <| .nil
theorem ixD (call : CallT → List AV → AHeap → FRes) (h : AHeap) :
    RunF Tryz.prog Tryz.f146 none call [1, 0, 1, 1, 1, 1, 1, 1, 0, 1, 1, 1, 1, 1] (SSt.mk [] [] .none h) (.ret)
      (SSt.mk [(4, .int .i64 (.negSucc 0))] [] .none h) :=
  sxF_run [4] (hs := []) (by kernel_rfl) <| .nil
theorem ixP0 (call : CallT → List AV → AHeap → FRes) (s : List UInt8) (r : Nat) (h : AHeap) :
    RunF Tryz.prog Tryz.f146 none call [0] (SSt.mk [(0, .str s), (1, .int .i32 (.ofNat r))] [] .none h) (.nrm)
      (SSt.mk [(0, .str s), (1, .int .i32 (.ofNat r))] [] .none h) :=
  sxF_run [0, 1] (hs := []) (by kernel_rfl) <| .nil
theorem ixP1 (call : CallT → List AV → AHeap → FRes) (s : List UInt8) (r : Nat) (h : AHeap) :
    RunF Tryz.prog Tryz.f146 none call [1, 0, 0] (SSt.mk [(0, .str s), (1, .int .i32 (.ofNat r))] [] .none h) (.nrm)
      (SSt.mk [(0, .str s), (1, .int .i32 (.ofNat r)), (160, .bool (ltI (.ofNat r) (.ofNat 128)))] [] .none h) :=
  sxF_run [0, 1, 160] (hs := [.b true, .b true, .b true]) (by kernel_rfl) <| .cons (by kernel_rfl : leI (Int.ofNat 0) (Int.ofNat r) = true) <| .cons (by kernel_rfl : leI (Int.ofNat 0) (Int.ofNat r) = true) <| .cons (by kernel_rfl : leI (Int.ofNat 0) (Int.ofNat r) = true) <| .nil
theorem ixP2 (call : CallT → List AV → AHeap → FRes) (s : List UInt8) (r : Nat) (h : AHeap) :
    RunF Tryz.prog Tryz.f146 none call [1, 0, 1, 1, 0] (SSt.mk [(0, .str s), (1, .int .i32 (.ofNat r))] [] .none h) (.nrm)
      (SSt.mk [(0, .str s), (1, .int .i32 (.ofNat r)), (171, .bool (eqI (.ofNat r) (.ofNat 65533)))] [] .none h) :=
  sxF_run [0, 1, 171] (hs := []) (by kernel_rfl) <| .nil
theorem ixP3 (call : CallT → List AV → AHeap → FRes) (s : List UInt8) (r : Nat) (h g : AHeap)
    (H1 : call (.fn 176) [.int .i32 (.ofNat r)] h = FRes.ret (.bool true) g) :
    RunF Tryz.prog Tryz.f146 none call [1, 0, 1, 1, 1, 1, 0] (SSt.mk [(0, .str s), (1, .int .i32 (.ofNat r))] [] .none h) (.nrm)
      (SSt.mk [(0, .str s), (1, .int .i32 (.ofNat r)), (183, .bool !true)] [] .none g) :=
  sxF_run [0, 1, 183] (hs := [.c (.bool true) g]) (by kernel_rfl) <| .cons H1 <| .nil
theorem ixE (call : CallT → List AV → AHeap → FRes) (s t : List UInt8) (k : Nat) (h : AHeap) :
    RunF Tryz.prog Tryz.f146 none call [1, 0, 1, 1, 1, 1, 1, 1, 0, 1, 1, 0] (SSt.mk [(0, .str s), (7, .str t), (8, .int .i64 (.ofNat k))] [] .none h) (.nrm)
      (SSt.mk [(0, .str s), (7, .str t), (8, .int .i64 (.ofNat k)), (9, .int .i64 (.ofNat k))] [] .none h) :=
  sxF_run [0, 7, 8, 9] (hs := []) (by kernel_rfl) <| .nil
theorem ixF (call : CallT → List AV → AHeap → FRes) (s t : List UInt8) (k : Nat) (h : AHeap) :
    RunF Tryz.prog Tryz.f146 none call [1, 0, 1, 1, 1, 1, 1, 1, 0, 1, 1, 1, 0] (SSt.mk [(0, .str s), (7, .str t), (8, .int .i64 (.ofNat k)), (9, .int .i64 (.ofNat k))] [] .none h) (.nrm)
      (SSt.mk [(0, .str s), (7, .str t), (8, .int .i64 (.ofNat k)), (9, .int .i64 (.ofNat k)), (10, .int .i64 (.ofNat 0))] [] .none h) :=
  sxF_run [0, 7, 8, 9, 10] (hs := []) (by kernel_rfl) <| .nil

/-! ### utf8.DecodeRuneInString -/
theorem u8t : Tryz.prog.underlying 5 = some (.int .u8) := by kernel_rfl
theorem i32t : Tryz.prog.underlying 21 = some (.int .i32) := by kernel_rfl
theorem u32t : Tryz.prog.underlying 169 = some (.int .u32) := by kernel_rfl
theorem i64t : Tryz.prog.underlying 3 = some (.int .i64) := by kernel_rfl
theorem strt : Tryz.prog.underlying 9 = some .string := by kernel_rfl
theorem bytest : Tryz.prog.underlying 22 = some (.slice 5) := by kernel_rfl
theorem tab_at {h : AHeap} (ht : tabsIn h tabs = true) {t : Tab} (hm : t ∈ tabs) {j x : Nat} (hj : t.xs[j]? = some x) : load1 h t.g j = some (.int .u8 (Int.ofNat x)) := by
  obtain ⟨el, hg⟩ := isTab_get (tabsIn_mem ht t hm)
  refine ld1 hg ?_
  rw [nth_eq, u8s_get, hj]; rfl
theorem first_tab : ((List.range 256).all fun b => match firstL[b]? with
    | some x => Nat.beq x (if b < 128 then 240 else if b < 194 ∨ 244 < b then 241 else if b ≤ 223 then 2 else if b = 224 then 19 else if b = 237 then 35 else if b ≤ 239 then 3 else if b = 240 then 52 else if b ≤ 243 then 4 else 68)
    | none => false) = true := by kernel_rfl
theorem first_at {b : Nat} (hb : b < 256) : firstL[b]? = some (if b < 128 then 240 else if b < 194 ∨ 244 < b then 241 else if b ≤ 223 then 2 else if b = 224 then 19 else if b = 237 then 35 else if b ≤ 239 then 3 else if b = 240 then 52 else if b ≤ 243 then 4 else 68) := by
  have := List.all_eq_true.1 first_tab b (List.mem_range.2 hb)
  split at this
  · rename_i x hx
    rw [hx, Nat.eq_of_beq_eq_true this]
  · cases this
theorem lead_first {b lo hi sz x idx : Nat} (hb : b < 256) (hl : Lead b lo hi sz x idx) (hc : (x, idx, lo, hi) = (2, 0, 128, 191) ∧ 194 ≤ b ∧ b ≤ 223 ∨ (x, idx, lo, hi) = (19, 1, 160, 191) ∧ b = 224 ∨ (x, idx, lo, hi) = (35, 2, 128, 159) ∧ b = 237 ∨ (x, idx, lo, hi) = (3, 0, 128, 191) ∧ 224 < b ∧ b ≤ 239 ∧ b ≠ 237 ∨
    (x, idx, lo, hi) = (52, 3, 144, 191) ∧ b = 240 ∨ (x, idx, lo, hi) = (4, 0, 128, 191) ∧ 240 < b ∧ b ≤ 243 ∨ (x, idx, lo, hi) = (68, 4, 128, 143) ∧ b = 244) : firstL[b]? = some x ∧ acceptL[2 * idx]? = some lo ∧ acceptL[2 * idx + 1]? = some hi := by
  rw [first_at hb]
  rcases hc with ⟨h, h1⟩ | ⟨h, h1⟩ | ⟨h, h1⟩ | ⟨h, h1⟩ | ⟨h, h1⟩ | ⟨h, h1⟩ | ⟨h, h1⟩ <;> (cases h; refine ⟨congrArg some ?_, rfl, rfl⟩)
  · rw [if_neg (by omega), if_neg (by omega), if_pos (by omega)]
  · rw [if_neg (by omega), if_neg (by omega), if_neg (by omega), if_pos (by omega)]
  · rw [if_neg (by omega), if_neg (by omega), if_neg (by omega), if_neg (by omega), if_pos (by omega)]
  · rw [if_neg (by omega), if_neg (by omega), if_neg (by omega), if_neg (by omega), if_neg (by omega), if_pos (by omega)]
  · rw [if_neg (by omega), if_neg (by omega), if_neg (by omega), if_neg (by omega), if_neg (by omega), if_neg (by omega), if_pos (by omega)]
  · rw [if_neg (by omega), if_neg (by omega), if_neg (by omega), if_neg (by omega), if_neg (by omega), if_neg (by omega), if_neg (by omega), if_pos (by omega)]
  · rw [if_neg (by omega), if_neg (by omega), if_neg (by omega), if_neg (by omega), if_neg (by omega), if_neg (by omega), if_neg (by omega), if_neg (by omega)]
theorem idx0 (b : UInt8) (s : List UInt8) : idxS 0 (b :: s) = some (.int .u8 (Int.ofNat b.toNat)) := rfl
theorem idx1 (b y : UInt8) (s : List UInt8) : idxS 1 (b :: y :: s) = some (.int .u8 (Int.ofNat y.toNat)) := rfl
theorem idx2 (b y z : UInt8) (s : List UInt8) : idxS 2 (b :: y :: z :: s) = some (.int .u8 (Int.ofNat z.toNat)) := rfl
theorem idx3 (b y z w : UInt8) (s : List UInt8) : idxS 3 (b :: y :: z :: w :: s) = some (.int .u8 (Int.ofNat w.toNat)) := rfl
theorem andNot_m1 (b : Nat) : arith BinOp.andNot IntKind.i32 (Int.ofNat b) (-1) = some (AV.int IntKind.i32 (Int.ofNat 0)) := by
  have h1 : BitVec.ofInt 32 (-1) = BitVec.allOnes 32 := by rfl
  have h2 : (BitVec.ofInt 32 (Int.ofNat b) &&& ~~~ BitVec.ofInt 32 (-1)) = 0#32 := by rw [h1]; simp
  show some (AV.int IntKind.i32 (IntKind.wrap .i32 (((BitVec.ofInt 32 (Int.ofNat b) &&& ~~~ BitVec.ofInt 32 (-1)).toNat : Nat) : Int))) = _
  rw [h2]; rfl
theorem slow_c (m : Nat) (b : UInt8) (t : List UInt8) (h : AHeap) (ht : tabsIn h tabs = true) (h0 : ¬ b.toNat < 128) : ∃ h', C (m + 1) (.fn 174) [.str (b :: t)] h = .ret (.tup [.int .i32 (Int.ofNat (decP (b :: t)).1), .int .i64 (Int.ofNat (decP (b :: t)).2)]) h' ∧ Ext h.n h h' := by
  have hb := u8lt b
  have hlen : (b :: t).length = t.length + 1 := rfl
  have fin : ∀ {h' : AHeap} {x n : Nat}, RunF Tryz.prog Tryz.f174 none (C m) [] ⟨[(0, .str (b :: t))], [], .none, h⟩ .ret ⟨[(2, .int .i32 (Int.ofNat x)), (3, .int .i64 (Int.ofNat n))], [], .none, h'⟩ → C (m + 1) (.fn 174) [.str (b :: t)] h = .ret (.tup [.int .i32 (Int.ofNat x), .int .i64 (Int.ofNat n)]) h' := fun hr =>
    fn_runF (intr := Il) (n := m) (args := [.str (b :: t)]) Tryz.func174 (by kernel_rfl) rfl (by kernel_rfl) hr (.inl rfl) (by kernel_rfl)
  have m3 : (⟨2, firstL⟩ : Tab) ∈ tabs := by simp [tabs]
  have m4 : (⟨3, acceptL⟩ : Tab) ∈ tabs := by simp [tabs]
  rcases lead_or (by omega : 128 ≤ b.toNat) hb with ⟨hr, he⟩ | ⟨lo, hi, sz, x, idx, hl, hc⟩
  · have hd := dec0 (chr_lead0 (t := t) h0 he)
    rw [hd]
    have hf : load1 h 2 (0 + b.toNat * 1) = some (.int .u8 (Int.ofNat 241)) := tab_at (t := ⟨2, firstL⟩) ht m3 (by
      have e : 0 + b.toNat * 1 = b.toNat := by omega
      rw [e]
      show firstL[b.toNat]? = _
      rw [first_at hb, if_neg h0, if_pos hr])
    exact ⟨h, fin (dsb (C m) b.toNat 0 (b :: t) h _ (lt_f (by rw [hlen]; omega)) (idx0 b t) hb hf (cv_u8_i32 u8t i32t hb) (andNot_m1 b.toNat)), Ext.refl _ _⟩
  · obtain ⟨f1, f2, f3⟩ := lead_first hb hl hc
    obtain ⟨x1, x2, x3, x4⟩ := hl.hx
    have hx8 : x < 256 := by omega
    have hf : load1 h 2 (0 + b.toNat * 1) = some (.int .u8 (Int.ofNat x)) := tab_at (t := ⟨2, firstL⟩) ht m3 (by
      have e : 0 + b.toNat * 1 = b.toNat := by omega
      rw [e]; exact f1)
    have k6 : arith BinOp.and IntKind.u8 (Int.ofNat x) (Int.ofNat 7) = some (.int .u8 (Int.ofNat sz)) := by
      have := and_j 3 hx8 (by decide)
      rw [show x % 2 ^ 3 = sz from x1] at this
      exact this
    have k8 : shiftA BinOp.shr IntKind.u8 (Int.ofNat x) (Int.ofNat 4) = some (.int .u8 (Int.ofNat idx)) := by
      have := shr_k .u8 (i := x) (j := 4) (by decide)
      rw [show x / 2 ^ 4 = idx from x2] at this
      exact this
    have hsz : sz < 256 := by rcases hl.hsz with ⟨rfl, _⟩ | ⟨rfl, _⟩ | ⟨rfl, _⟩ <;> decide
    have k7 := cv_u8_i64 (P := Tryz.prog) (h := h) u8t i64t hsz
    have k10 : AEv.loadCells h 3 (0 + idx * 2) 2 = some [.int .u8 (Int.ofNat lo), .int .u8 (Int.ofNat hi)] := by
      obtain ⟨el, hg⟩ := isTab_get (tabsIn_mem ht _ m4)
      refine ldc hg ?_
      have hlen : 2 * idx + 1 < acceptL.length := (List.getElem?_eq_some_iff.1 f3).1
      have e : 0 + idx * 2 = 2 * idx := by omega
      rw [dropN_eq, e]
      have e1 : (u8s acceptL)[2 * idx]? = some (.int .u8 (Int.ofNat lo)) := by rw [u8s_get, f2]; rfl
      have e2 : (u8s acceptL)[2 * idx + 1]? = some (.int .u8 (Int.ofNat hi)) := by rw [u8s_get, f3]; rfl
      obtain ⟨q1, q2⟩ := List.getElem?_eq_some_iff.1 e1
      obtain ⟨q3, q4⟩ := List.getElem?_eq_some_iff.1 e2
      rw [List.drop_eq_getElem_cons q1, q2, List.drop_eq_getElem_cons q3, q4]
      rfl
    obtain ⟨g, hgd⟩ : ∃ g, g = (h.push (.cells [.int .u8 (Int.ofNat 0), .int .u8 (Int.ofNat 0)] 250 .own 0 0)).set h.n (some (.cells [.int .u8 (Int.ofNat lo), .int .u8 (Int.ofNat hi)] 250 .own 0 0)) := ⟨_, rfl⟩
    have k11 : AEv.storeCells (h.push (.cells [.int .u8 (Int.ofNat 0), .int .u8 (Int.ofNat 0)] 250 .own 0 0)) h.n 0 [.int .u8 (Int.ofNat lo), .int .u8 (Int.ofNat hi)] = some g := by rw [hgd]; exact stc (gtop rfl) rfl rfl
    have xg : Ext h.n h g := by rw [hgd]; exact exA
    have hgg : g.get h.n = some (.cells [.int .u8 (Int.ofNat lo), .int .u8 (Int.ofNat hi)] 250 .own 0 0) := by rw [hgd]; exact gsame rfl
    have l0 : load1 g h.n (0 + 0) = some (.int .u8 (Int.ofNat lo)) := ld1 hgg rfl
    have l1 : load1 g h.n (0 + 1) = some (.int .u8 (Int.ofNat hi)) := ld1 hgg rfl
    have c3 : Nat.le (Nat.succ b.toNat) 256 := hb
    have c9 : Nat.le (Nat.succ idx) 16 := x4
    have bad : chr (b :: t) = 0 → RunF Tryz.prog Tryz.f174 none (C m) [] ⟨[(0, .str (b :: t))], [], .none, h⟩ .ret ⟨[(2, .int .i32 (Int.ofNat 65533)), (3, .int .i64 (Int.ofNat 1))], [], .none, g⟩ → ∃ h', C (m + 1) (.fn 174) [.str (b :: t)] h = .ret (.tup [.int .i32 (Int.ofNat (decP (b :: t)).1), .int .i64 (Int.ofNat (decP (b :: t)).2)]) h' ∧ Ext h.n h h' := fun hz hr => by
      rw [dec0 hz]; exact ⟨g, fin hr, xg⟩
    have c1 : ltI (Int.ofNat (b :: t).length) (Int.ofNat 1) = false := lt_f (by rw [hlen]; omega)
    have c5 : leI (Int.ofNat 240) (Int.ofNat x) = false := le_f (by omega)
    by_cases hn : (b :: t).length < sz
    · refine bad ?_ (dsl_1 (C m) b.toNat x lo hi (b :: t) h _ _ _ _ c1 (idx0 b t) c3 hf c5 k6 k7 k8 c9 k10 k11 (lt_t hn))
      have := chr_le (b :: t)
      rcases hl.hsz with ⟨rfl, _⟩ | ⟨rfl, _⟩ | ⟨rfl, _⟩
      · have e := chr_lead2 (t := t) h0 hl.he
        by_cases hw : win t lo hi = true
        · rw [e, if_pos hw] at this; omega
        · rw [e, if_neg hw]
      · have e := chr_lead3 (t := t) h0 hl.he
        by_cases hw : (win t lo hi && win (t.drop 1) 128 191) = true
        · rw [e, if_pos hw] at this; omega
        · rw [e, if_neg hw]
      · have e := chr_lead4 (t := t) h0 hl.he
        by_cases hw : (win t lo hi && win (t.drop 1) 128 191 && win (t.drop 2) 128 191) = true
        · rw [e, if_pos hw] at this; omega
        · rw [e, if_neg hw]
    have c12 : ltI (Int.ofNat (b :: t).length) (Int.ofNat sz) = false := lt_f hn
    cases t with
    | nil => rcases hl.hsz with ⟨rfl, _⟩ | ⟨rfl, _⟩ | ⟨rfl, _⟩ <;> simp at hn
    | cons y r =>
      have hy := u8lt y
      have hl1 := hl.hlo
      have hl2 := hl.hhi
      have wl : win (y :: r) lo hi = (decide (lo ≤ y.toNat) && decide (y.toNat ≤ hi)) := rfl
      have z0 : ¬ (lo ≤ y.toNat ∧ y.toNat ≤ hi) → chr (b :: y :: r) = 0 := fun hw => by
        have : win (y :: r) lo hi = false := by rw [wl]; simp; omega
        rcases hl.hsz with ⟨rfl, _⟩ | ⟨rfl, _⟩ | ⟨rfl, _⟩
        · rw [chr_lead2 h0 hl.he, this]; rfl
        · rw [chr_lead3 h0 hl.he, this]; rfl
        · rw [chr_lead4 h0 hl.he, this]; rfl
      by_cases w1 : y.toNat < lo
      · exact bad (z0 (by omega)) (dsl_2 (C m) b.toNat x lo hi (b :: y :: r) h _ _ _ _ _ _ c1 (idx0 b _) c3 hf c5 k6 k7 k8 c9 k10 k11 c12 (idx1 b y r) l0 (lt_t w1))
      have c15 : ltI (Int.ofNat y.toNat) (Int.ofNat lo) = false := lt_f w1
      by_cases w2 : hi < y.toNat
      · exact bad (z0 (by omega)) (dsl_3 (C m) b.toNat x lo hi (b :: y :: r) h _ _ _ _ _ _ _ c1 (idx0 b _) c3 hf c5 k6 k7 k8 c9 k10 k11 c12 (idx1 b y r) l0 c15 l1 (lt_t w2))
      have c17 : ltI (Int.ofNat hi) (Int.ofNat y.toNat) = false := lt_f w2
      have hw1 : win (y :: r) lo hi = true := by rw [wl]; simp; omega
      have hy2 : y.toNat / 64 = 2 := by omega
      have ky : arith BinOp.and IntKind.u8 (Int.ofNat y.toNat) (Int.ofNat 63) = some (.int .u8 (Int.ofNat (y.toNat % 64))) := and_j 6 hy (by decide)
      have vy := cv_u8_i32 (P := Tryz.prog) (h := g) u8t i32t (show y.toNat % 64 < 256 by omega)
      rcases hl.hsz with ⟨rfl, hr⟩ | hsz
      · have kb : arith BinOp.and IntKind.u8 (Int.ofNat b.toNat) (Int.ofNat 31) = some (.int .u8 (Int.ofNat (b.toNat % 32))) := and_j 5 hb (by decide)
        have vb := cv_u8_i32 (P := Tryz.prog) (h := g) u8t i32t (show b.toNat % 32 < 256 by omega)
        have sb : shiftA BinOp.shl IntKind.i32 (Int.ofNat (b.toNat % 32)) (Int.ofNat 6) = some (.int .i32 (Int.ofNat (b.toNat % 32 * 64))) := shl_i32 6 (by decide) (by omega)
        have o1 : arith BinOp.or IntKind.i32 (Int.ofNat (b.toNat % 32 * 64)) (Int.ofNat (y.toNat % 64)) = some (.int .i32 (Int.ofNat (b.toNat % 32 * 64 + y.toNat % 64))) := or_i32' 6 (by omega) (by omega) (by omega)
        rw [dec2 hr hy2]
        exact ⟨g, fin (dsl_4 (C m) b.toNat x lo hi (b :: y :: r) h _ _ _ _ _ _ _ _ _ _ _ _ _ c1 (idx0 b _) c3 hf c5 k6 k7 k8 c9 k10 k11 c12 (idx1 b y r) l0 c15 l1 c17 (le_t (by omega)) kb vb sb ky vy o1), xg⟩
      · have c18 : leI (Int.ofNat sz) (Int.ofNat 2) = false := le_f (by omega)
        cases r with
        | nil => simp at hn; omega
        | cons z r =>
          have hz := u8lt z
          have wz : win (z :: r) 128 191 = (decide (128 ≤ z.toNat) && decide (z.toNat ≤ 191)) := rfl
          have z1 : ¬ (128 ≤ z.toNat ∧ z.toNat ≤ 191) → chr (b :: y :: z :: r) = 0 := fun hw => by
            have : win (z :: r) 128 191 = false := by rw [wz]; simp; omega
            rcases hsz with ⟨rfl, _⟩ | ⟨rfl, _⟩
            · rw [chr_lead3 h0 hl.he, List.drop_succ_cons, List.drop_zero, this, Bool.and_false]; rfl
            · rw [chr_lead4 h0 hl.he, List.drop_succ_cons, List.drop_zero, this, Bool.and_false, Bool.false_and]; rfl
          by_cases w3 : z.toNat < 128
          · exact bad (z1 (by omega)) (dsl_5 (C m) b.toNat x lo hi (b :: y :: z :: r) h _ _ _ _ _ _ _ _ c1 (idx0 b _) c3 hf c5 k6 k7 k8 c9 k10 k11 c12 (idx1 b y _) l0 c15 l1 c17 c18 (idx2 b y z r) (lt_t w3))
          have c20 : ltI (Int.ofNat z.toNat) (Int.ofNat 128) = false := lt_f w3
          by_cases w4 : 191 < z.toNat
          · exact bad (z1 (by omega)) (dsl_6 (C m) b.toNat x lo hi (b :: y :: z :: r) h _ _ _ _ _ _ _ _ c1 (idx0 b _) c3 hf c5 k6 k7 k8 c9 k10 k11 c12 (idx1 b y _) l0 c15 l1 c17 c18 (idx2 b y z r) c20 (lt_t w4))
          have c21 : ltI (Int.ofNat 191) (Int.ofNat z.toNat) = false := lt_f w4
          have hz2 : z.toNat / 64 = 2 := by omega
          have hwz : win (z :: r) 128 191 = true := by rw [wz]; simp; omega
          have kz : arith BinOp.and IntKind.u8 (Int.ofNat z.toNat) (Int.ofNat 63) = some (.int .u8 (Int.ofNat (z.toNat % 64))) := and_j 6 hz (by decide)
          have vz := cv_u8_i32 (P := Tryz.prog) (h := g) u8t i32t (show z.toNat % 64 < 256 by omega)
          rcases hsz with ⟨rfl, hr⟩ | ⟨rfl, hr⟩
          · have kb : arith BinOp.and IntKind.u8 (Int.ofNat b.toNat) (Int.ofNat 15) = some (.int .u8 (Int.ofNat (b.toNat % 16))) := and_j 4 hb (by decide)
            have vb := cv_u8_i32 (P := Tryz.prog) (h := g) u8t i32t (show b.toNat % 16 < 256 by omega)
            have sb : shiftA BinOp.shl IntKind.i32 (Int.ofNat (b.toNat % 16)) (Int.ofNat 12) = some (.int .i32 (Int.ofNat (b.toNat % 16 * 4096))) := shl_i32 12 (by decide) (by omega)
            have sy : shiftA BinOp.shl IntKind.i32 (Int.ofNat (y.toNat % 64)) (Int.ofNat 6) = some (.int .i32 (Int.ofNat (y.toNat % 64 * 64))) := shl_i32 6 (by decide) (by omega)
            have o1 : arith BinOp.or IntKind.i32 (Int.ofNat (b.toNat % 16 * 4096)) (Int.ofNat (y.toNat % 64 * 64)) = some (.int .i32 (Int.ofNat (b.toNat % 16 * 4096 + y.toNat % 64 * 64))) := or_i32' 12 (by omega) (by omega) (by omega)
            have o2 : arith BinOp.or IntKind.i32 (Int.ofNat (b.toNat % 16 * 4096 + y.toNat % 64 * 64)) (Int.ofNat (z.toNat % 64)) = some (.int .i32 (Int.ofNat (b.toNat % 16 * 4096 + y.toNat % 64 * 64 + z.toNat % 64))) := or_i32' 6 (by omega) (by omega) (by omega)
            have hc3 : chr (b :: y :: z :: r) = 3 := by rw [chr_lead3 h0 hl.he, hw1, List.drop_succ_cons, List.drop_zero, hwz]; rfl
            rw [dec3 hr hy2 hz2 hc3]
            exact ⟨g, fin (dsl_7 (C m) b.toNat x lo hi (b :: y :: z :: r) h _ _ _ _ _ _ _ _ _ _ _ _ _ _ _ _ _ _ c1 (idx0 b _) c3 hf c5 k6 k7 k8 c9 k10 k11 c12 (idx1 b y _) l0 c15 l1 c17 c18 (idx2 b y z r) c20 c21 (le_t (by omega)) kb vb sb ky vy sy o1 kz vz o2), xg⟩
          · have c22 : leI (Int.ofNat 4) (Int.ofNat 3) = false := le_f (by omega)
            cases r with
            | nil => simp at hn
            | cons w r =>
              have hw := u8lt w
              have ww : win (w :: r) 128 191 = (decide (128 ≤ w.toNat) && decide (w.toNat ≤ 191)) := rfl
              have z2 : ¬ (128 ≤ w.toNat ∧ w.toNat ≤ 191) → chr (b :: y :: z :: w :: r) = 0 := fun hw => by
                have : win (w :: r) 128 191 = false := by rw [ww]; simp; omega
                rw [chr_lead4 h0 hl.he]
                simp only [List.drop_succ_cons, List.drop_zero, this, Bool.and_false]; rfl
              by_cases w5 : w.toNat < 128
              · exact bad (z2 (by omega)) (dsl_8 (C m) b.toNat x lo hi (b :: y :: z :: w :: r) h _ _ _ _ _ _ _ _ _ c1 (idx0 b _) c3 hf c5 k6 k7 k8 c9 k10 k11 c12 (idx1 b y _) l0 c15 l1 c17 c18 (idx2 b y z _) c20 c21 c22 (idx3 b y z w r) (lt_t w5))
              have c24 : ltI (Int.ofNat w.toNat) (Int.ofNat 128) = false := lt_f w5
              by_cases w6 : 191 < w.toNat
              · exact bad (z2 (by omega)) (dsl_9 (C m) b.toNat x lo hi (b :: y :: z :: w :: r) h _ _ _ _ _ _ _ _ _ c1 (idx0 b _) c3 hf c5 k6 k7 k8 c9 k10 k11 c12 (idx1 b y _) l0 c15 l1 c17 c18 (idx2 b y z _) c20 c21 c22 (idx3 b y z w r) c24 (lt_t w6))
              have c25 : ltI (Int.ofNat 191) (Int.ofNat w.toNat) = false := lt_f w6
              have hw2 : w.toNat / 64 = 2 := by omega
              have hww : win (w :: r) 128 191 = true := by rw [ww]; simp; omega
              have kw : arith BinOp.and IntKind.u8 (Int.ofNat w.toNat) (Int.ofNat 63) = some (.int .u8 (Int.ofNat (w.toNat % 64))) := and_j 6 hw (by decide)
              have vw := cv_u8_i32 (P := Tryz.prog) (h := g) u8t i32t (show w.toNat % 64 < 256 by omega)
              have kb : arith BinOp.and IntKind.u8 (Int.ofNat b.toNat) (Int.ofNat 7) = some (.int .u8 (Int.ofNat (b.toNat % 8))) := and_j 3 hb (by decide)
              have vb := cv_u8_i32 (P := Tryz.prog) (h := g) u8t i32t (show b.toNat % 8 < 256 by omega)
              have sb : shiftA BinOp.shl IntKind.i32 (Int.ofNat (b.toNat % 8)) (Int.ofNat 18) = some (.int .i32 (Int.ofNat (b.toNat % 8 * 262144))) := shl_i32 18 (by decide) (by omega)
              have sy : shiftA BinOp.shl IntKind.i32 (Int.ofNat (y.toNat % 64)) (Int.ofNat 12) = some (.int .i32 (Int.ofNat (y.toNat % 64 * 4096))) := shl_i32 12 (by decide) (by omega)
              have sz' : shiftA BinOp.shl IntKind.i32 (Int.ofNat (z.toNat % 64)) (Int.ofNat 6) = some (.int .i32 (Int.ofNat (z.toNat % 64 * 64))) := shl_i32 6 (by decide) (by omega)
              have o1 : arith BinOp.or IntKind.i32 (Int.ofNat (b.toNat % 8 * 262144)) (Int.ofNat (y.toNat % 64 * 4096)) = some (.int .i32 (Int.ofNat (b.toNat % 8 * 262144 + y.toNat % 64 * 4096))) := or_i32' 18 (by omega) (by omega) (by omega)
              have o2 : arith BinOp.or IntKind.i32 (Int.ofNat (b.toNat % 8 * 262144 + y.toNat % 64 * 4096)) (Int.ofNat (z.toNat % 64 * 64)) = some (.int .i32 (Int.ofNat (b.toNat % 8 * 262144 + y.toNat % 64 * 4096 + z.toNat % 64 * 64))) := or_i32' 12 (by omega) (by omega) (by omega)
              have o3 : arith BinOp.or IntKind.i32 (Int.ofNat (b.toNat % 8 * 262144 + y.toNat % 64 * 4096 + z.toNat % 64 * 64)) (Int.ofNat (w.toNat % 64)) = some (.int .i32 (Int.ofNat (b.toNat % 8 * 262144 + y.toNat % 64 * 4096 + z.toNat % 64 * 64 + w.toNat % 64))) := or_i32' 6 (by omega) (by omega) (by omega)
              have hc4 : chr (b :: y :: z :: w :: r) = 4 := by
                rw [chr_lead4 h0 hl.he, hw1]
                simp only [List.drop_succ_cons, List.drop_zero, hwz, hww]; rfl
              rw [dec4 hr hy2 hz2 hw2 hc4]
              exact ⟨g, fin (dsl_10 (C m) b.toNat x lo hi (b :: y :: z :: w :: r) h _ _ _ _ _ _ _ _ _ _ _ _ _ _ _ _ _ _ _ _ _ _ _ c1 (idx0 b _) c3 hf c5 k6 k7 k8 c9 k10 k11 c12 (idx1 b y _) l0 c15 l1 c17 c18 (idx2 b y z _) c20 c21 c22 (idx3 b y z w r) c24 c25 kb vb sb ky vy sy o1 kz vz sz' o2 kw vw o3), xg⟩
/-- The first character of a text that is not empty. -/
theorem rune_c (m : Nat) (b : UInt8) (t : List UInt8) (h : AHeap) (ht : tabsIn h tabs = true) : ∃ h', C (m + 2) (.fn 145) [.str (b :: t)] h = .ret (.tup [.int .i32 (Int.ofNat (decP (b :: t)).1), .int .i64 (Int.ofNat (decP (b :: t)).2)]) h' ∧ Ext h.n h h' := by
  have hb := u8lt b
  by_cases h0 : b.toNat < 128
  · have e : decP (b :: t) = (b.toNat, 1) := by unfold decP; exact if_pos h0
    rw [e]
    exact ⟨h, fn_runF (intr := Il) (n := m + 1) (args := [.str (b :: t)]) Tryz.func145 (by kernel_rfl) rfl (by kernel_rfl) (dr1_1 (C (m + 1)) b t h _ _ (idx0 b t) (lt_t h0) (cv_u8_i32 u8t i32t hb)) (.inl rfl) (by kernel_rfl), Ext.refl _ _⟩
  · obtain ⟨g, c1, x1⟩ := slow_c m b t h ht h0
    exact ⟨g, fn_runF (intr := Il) (n := m + 1) (args := [.str (b :: t)]) Tryz.func145 (by kernel_rfl) rfl (by kernel_rfl) (dr1_2 (C (m + 1)) b t h _ _ _ _ (idx0 b t) (lt_f h0) c1) (.inl rfl) (by kernel_rfl), x1⟩
end Go.Proofs.Lx

namespace Go.Proofs.Lx
open Go AEv Go.Proofs Lexp
set_option maxRecDepth 100000
set_option maxHeartbeats 1000000

theorem ltr_1 (call : CallT → List AV → AHeap → FRes) (b : Nat) (h : AHeap)
    (H1 : leI (.ofNat 97) (.ofNat b) = true)
    (H2 : leI (.ofNat b) (.ofNat 122) = true) :
    RunF Tryz.prog Tryz.f102 none call [] (SSt.mk [(0, .int .u8 (.ofNat b))] [] .none h) (.ret)
      (SSt.mk [(2, .bool true)] [] .none h) :=
  sxF_run [2] (hs := [.b true, .b true, .b true, .b true, .b true, .b true, .b true, .b true, .b true, .b true, .b true]) (by kernel_rfl) <| .cons H1 <| .cons H1 <| .cons H1 <| .cons H2 <| .cons H2 <| .cons H2 <| .cons H2 <| .cons H2 <| .cons (by kernel_rfl : true = true) <| .cons (by kernel_rfl : true = true) <| .cons (by kernel_rfl : true = true) <| .nil
theorem ltr_3 (call : CallT → List AV → AHeap → FRes) (b : Nat) (h : AHeap)
    (H1 : leI (.ofNat 97) (.ofNat b) = true)
    (H2 : leI (.ofNat b) (.ofNat 122) = false)
    (H3 : leI (.ofNat 65) (.ofNat b) = true)
    (H4 : leI (.ofNat b) (.ofNat 90) = false) :
    RunF Tryz.prog Tryz.f102 none call [] (SSt.mk [(0, .int .u8 (.ofNat b))] [] .none h) (.ret)
      (SSt.mk [(2, .bool (eqI (.ofNat b) (.ofNat 95)))] [] .none h) :=
  sxF_run [2] (hs := [.b true, .b true, .b true, .b false, .b false, .b false, .b true, .b true, .b false, .b true, .b false, .b false, .b false, .b false]) (by kernel_rfl) <| .cons H1 <| .cons H1 <| .cons H1 <| .cons H2 <| .cons H2 <| .cons H2 <| .cons H3 <| .cons H3 <| .cons H2 <| .cons H3 <| .cons H2 <| .cons H4 <| .cons H4 <| .cons H4 <| .nil
theorem ltr_5 (call : CallT → List AV → AHeap → FRes) (b : Nat) (h : AHeap)
    (H1 : leI (.ofNat 97) (.ofNat b) = false)
    (H2 : leI (.ofNat 65) (.ofNat b) = true)
    (H3 : leI (.ofNat b) (.ofNat 90) = true) :
    RunF Tryz.prog Tryz.f102 none call [] (SSt.mk [(0, .int .u8 (.ofNat b))] [] .none h) (.ret)
      (SSt.mk [(2, .bool true)] [] .none h) :=
  sxF_run [2] (hs := [.b false, .b false, .b false, .b false, .b false, .b false, .b true, .b true, .b false, .b true, .b false, .b true, .b true, .b true]) (by kernel_rfl) <| .cons H1 <| .cons H1 <| .cons H1 <| .cons (by kernel_rfl : false = false) <| .cons (by kernel_rfl : false = false) <| .cons (by kernel_rfl : false = false) <| .cons H2 <| .cons H2 <| .cons (by kernel_rfl : false = false) <| .cons H2 <| .cons (by kernel_rfl : false = false) <| .cons H3 <| .cons H3 <| .cons H3 <| .nil
theorem ltr_6 (call : CallT → List AV → AHeap → FRes) (b : Nat) (h : AHeap)
    (H1 : leI (.ofNat 97) (.ofNat b) = false)
    (H2 : leI (.ofNat 65) (.ofNat b) = true)
    (H3 : leI (.ofNat b) (.ofNat 90) = false) :
    RunF Tryz.prog Tryz.f102 none call [] (SSt.mk [(0, .int .u8 (.ofNat b))] [] .none h) (.ret)
      (SSt.mk [(2, .bool (eqI (.ofNat b) (.ofNat 95)))] [] .none h) :=
  sxF_run [2] (hs := [.b false, .b false, .b false, .b false, .b false, .b false, .b true, .b true, .b false, .b true, .b false, .b false, .b false, .b false]) (by kernel_rfl) <| .cons H1 <| .cons H1 <| .cons H1 <| .cons (by kernel_rfl : false = false) <| .cons (by kernel_rfl : false = false) <| .cons (by kernel_rfl : false = false) <| .cons H2 <| .cons H2 <| .cons (by kernel_rfl : false = false) <| .cons H2 <| .cons (by kernel_rfl : false = false) <| .cons H3 <| .cons H3 <| .cons H3 <| .nil
theorem ltr_7 (call : CallT → List AV → AHeap → FRes) (b : Nat) (h : AHeap)
    (H1 : leI (.ofNat 97) (.ofNat b) = false)
    (H2 : leI (.ofNat 65) (.ofNat b) = false) :
    RunF Tryz.prog Tryz.f102 none call [] (SSt.mk [(0, .int .u8 (.ofNat b))] [] .none h) (.ret)
      (SSt.mk [(2, .bool (eqI (.ofNat b) (.ofNat 95)))] [] .none h) :=
  sxF_run [2] (hs := [.b false, .b false, .b false, .b false, .b false, .b false, .b false, .b false, .b false, .b false, .b false, .b false, .b false, .b false]) (by kernel_rfl) <| .cons H1 <| .cons H1 <| .cons H1 <| .cons (by kernel_rfl : false = false) <| .cons (by kernel_rfl : false = false) <| .cons (by kernel_rfl : false = false) <| .cons H2 <| .cons H2 <| .cons (by kernel_rfl : false = false) <| .cons H2 <| .cons (by kernel_rfl : false = false) <| .cons (by kernel_rfl : false = false) <| .cons (by kernel_rfl : false = false) <| .cons (by kernel_rfl : false = false) <| .nil
theorem dgt_1 (call : CallT → List AV → AHeap → FRes) (b : Nat) (h : AHeap)
    (H1 : leI (.ofNat 48) (.ofNat b) = true) :
    RunF Tryz.prog Tryz.f105 none call [] (SSt.mk [(0, .int .u8 (.ofNat b))] [] .none h) (.ret)
      (SSt.mk [(2, .bool (leI (.ofNat b) (.ofNat 57)))] [] .none h) :=
  sxF_run [2] (hs := [.b true, .b true, .b true]) (by kernel_rfl) <| .cons H1 <| .cons H1 <| .cons H1 <| .nil
theorem dgt_2 (call : CallT → List AV → AHeap → FRes) (b : Nat) (h : AHeap)
    (H1 : leI (.ofNat 48) (.ofNat b) = false) :
    RunF Tryz.prog Tryz.f105 none call [] (SSt.mk [(0, .int .u8 (.ofNat b))] [] .none h) (.ret)
      (SSt.mk [(2, .bool false)] [] .none h) :=
  sxF_run [2] (hs := [.b false, .b false, .b false]) (by kernel_rfl) <| .cons H1 <| .cons H1 <| .cons H1 <| .nil
theorem tk1_1 (call : CallT → List AV → AHeap → FRes) (b : Nat) (h : AHeap) (b_1 : Bool) (g_1 : AHeap)
    (H1 : call (.fn 102) [.int .u8 (.ofNat b)] h = FRes.ret (.bool b_1) g_1)
    (H2 : b_1 = true) :
    RunF Tryz.prog Tryz.f104 none call [] (SSt.mk [(0, .int .u8 (.ofNat b))] [] .none h) (.ret)
      (SSt.mk [(2, .bool true)] [] .none g_1) :=
  sxF_run [2] (hs := [.c (.bool b_1) g_1, .b true, .b true, .b true]) (by kernel_rfl) <| .cons H1 <| .cons H2 <| .cons H2 <| .cons H2 <| .nil
theorem tk1_2 (call : CallT → List AV → AHeap → FRes) (b : Nat) (h : AHeap) (b_1 : Bool) (g_1 : AHeap) (b_2 : Bool) (g_2 : AHeap)
    (H1 : call (.fn 102) [.int .u8 (.ofNat b)] h = FRes.ret (.bool b_1) g_1)
    (H2 : b_1 = false)
    (H3 : call (.fn 105) [.int .u8 (.ofNat b)] g_1 = FRes.ret (.bool b_2) g_2) :
    RunF Tryz.prog Tryz.f104 none call [] (SSt.mk [(0, .int .u8 (.ofNat b))] [] .none h) (.ret)
      (SSt.mk [(2, .bool b_2)] [] .none g_2) :=
  sxF_run [2] (hs := [.c (.bool b_1) g_1, .b false, .b false, .c (.bool b_2) g_2, .b false]) (by kernel_rfl) <| .cons H1 <| .cons H2 <| .cons H2 <| .cons H3 <| .cons H2 <| .nil
theorem rwlA_1 (call : CallT → List AV → AHeap → FRes) (p e : Nat) (h : AHeap) (t_1 : List UInt8) (n_1 : Nat) (b_1 : Bool) (g_1 : AHeap) (n_2 : Nat)
    (H1 : load1 h p (0 + 0) = some (.str t_1))
    (H2 : ltI (.ofNat e) (.ofNat (List.length t_1)) = true)
    (H3 : idxS e t_1 = some (.int .u8 (.ofNat n_1)))
    (H4 : call (.fn 105) [.int .u8 (.ofNat n_1)] h = FRes.ret (.bool b_1) g_1)
    (H5 : b_1 = true)
    (H6 : arith .add .i64 (.ofNat e) (.ofNat 1) = some (.int .i64 (.ofNat n_2))) :
    RunF Tryz.prog Tryz.f103 none call [1, 1, 0, 0, 0] (SSt.mk [(0, .ptr p 0), (1, .fn 105 [] []), (5, .int .i64 (.ofNat e))] [] .none h) (.nrm)
      (SSt.mk [(0, .ptr p 0), (1, .fn 105 [] []), (5, .int .i64 (.ofNat n_2))] [] .none g_1) :=
  sxF_run [0, 1, 5] (hs := [.v (.str t_1), .b true, .b true, .b true, .b true, .b true, .v (.str t_1), .b true, .b true, .v (.int .u8 (.ofNat n_1)), .b true, .c (.bool b_1) g_1, .b true, .b true, .v (.int .i64 (.ofNat n_2))]) (by kernel_rfl) <| .cons H1 <| .cons H2 <| .cons H2 <| .cons H2 <| .cons H2 <| .cons H2 <| .cons H1 <| .cons H2 <| .cons H2 <| .cons H3 <| .cons H2 <| .cons H4 <| .cons H2 <| .cons H5 <| .cons H6 <| .nil
theorem rwlA_2 (call : CallT → List AV → AHeap → FRes) (p e : Nat) (h : AHeap) (t_1 : List UInt8) (n_1 : Nat) (b_1 : Bool) (g_1 : AHeap)
    (H1 : load1 h p (0 + 0) = some (.str t_1))
    (H2 : ltI (.ofNat e) (.ofNat (List.length t_1)) = true)
    (H3 : idxS e t_1 = some (.int .u8 (.ofNat n_1)))
    (H4 : call (.fn 105) [.int .u8 (.ofNat n_1)] h = FRes.ret (.bool b_1) g_1)
    (H5 : b_1 = false) :
    RunF Tryz.prog Tryz.f103 none call [1, 1, 0, 0, 0] (SSt.mk [(0, .ptr p 0), (1, .fn 105 [] []), (5, .int .i64 (.ofNat e))] [] .none h) (.exit 0)
      (SSt.mk [(0, .ptr p 0), (1, .fn 105 [] []), (5, .int .i64 (.ofNat e))] [] .none g_1) :=
  sxF_run [0, 1, 5] (hs := [.v (.str t_1), .b true, .b true, .b true, .b true, .b true, .v (.str t_1), .b true, .b true, .v (.int .u8 (.ofNat n_1)), .b true, .c (.bool b_1) g_1, .b true, .b false]) (by kernel_rfl) <| .cons H1 <| .cons H2 <| .cons H2 <| .cons H2 <| .cons H2 <| .cons H2 <| .cons H1 <| .cons H2 <| .cons H2 <| .cons H3 <| .cons H2 <| .cons H4 <| .cons H2 <| .cons H5 <| .nil
theorem rwlA_3 (call : CallT → List AV → AHeap → FRes) (p e : Nat) (h : AHeap) (t_1 : List UInt8)
    (H1 : load1 h p (0 + 0) = some (.str t_1))
    (H2 : ltI (.ofNat e) (.ofNat (List.length t_1)) = false) :
    RunF Tryz.prog Tryz.f103 none call [1, 1, 0, 0, 0] (SSt.mk [(0, .ptr p 0), (1, .fn 105 [] []), (5, .int .i64 (.ofNat e))] [] .none h) (.exit 0)
      (SSt.mk [(0, .ptr p 0), (1, .fn 105 [] []), (5, .int .i64 (.ofNat e))] [] .none h) :=
  sxF_run [0, 1, 5] (hs := [.v (.str t_1), .b false, .b false, .b false, .b false, .b false, .b false, .b false, .b false, .b false, .b false]) (by kernel_rfl) <| .cons H1 <| .cons H2 <| .cons H2 <| .cons H2 <| .cons H2 <| .cons H2 <| .cons H2 <| .cons H2 <| .cons H2 <| .cons H2 <| .cons (by kernel_rfl : false = false) <| .nil
theorem rwlB_1 (call : CallT → List AV → AHeap → FRes) (p e : Nat) (h : AHeap) (t_1 : List UInt8) (n_1 : Nat) (b_1 : Bool) (g_1 : AHeap) (n_2 : Nat)
    (H1 : load1 h p (0 + 0) = some (.str t_1))
    (H2 : ltI (.ofNat e) (.ofNat (List.length t_1)) = true)
    (H3 : idxS e t_1 = some (.int .u8 (.ofNat n_1)))
    (H4 : call (.fn 104) [.int .u8 (.ofNat n_1)] h = FRes.ret (.bool b_1) g_1)
    (H5 : b_1 = true)
    (H6 : arith .add .i64 (.ofNat e) (.ofNat 1) = some (.int .i64 (.ofNat n_2))) :
    RunF Tryz.prog Tryz.f103 none call [1, 1, 0, 0, 0] (SSt.mk [(0, .ptr p 0), (1, .fn 104 [] []), (5, .int .i64 (.ofNat e))] [] .none h) (.nrm)
      (SSt.mk [(0, .ptr p 0), (1, .fn 104 [] []), (5, .int .i64 (.ofNat n_2))] [] .none g_1) :=
  sxF_run [0, 1, 5] (hs := [.v (.str t_1), .b true, .b true, .b true, .b true, .b true, .v (.str t_1), .b true, .b true, .v (.int .u8 (.ofNat n_1)), .b true, .c (.bool b_1) g_1, .b true, .b true, .v (.int .i64 (.ofNat n_2))]) (by kernel_rfl) <| .cons H1 <| .cons H2 <| .cons H2 <| .cons H2 <| .cons H2 <| .cons H2 <| .cons H1 <| .cons H2 <| .cons H2 <| .cons H3 <| .cons H2 <| .cons H4 <| .cons H2 <| .cons H5 <| .cons H6 <| .nil
theorem rwlB_2 (call : CallT → List AV → AHeap → FRes) (p e : Nat) (h : AHeap) (t_1 : List UInt8) (n_1 : Nat) (b_1 : Bool) (g_1 : AHeap)
    (H1 : load1 h p (0 + 0) = some (.str t_1))
    (H2 : ltI (.ofNat e) (.ofNat (List.length t_1)) = true)
    (H3 : idxS e t_1 = some (.int .u8 (.ofNat n_1)))
    (H4 : call (.fn 104) [.int .u8 (.ofNat n_1)] h = FRes.ret (.bool b_1) g_1)
    (H5 : b_1 = false) :
    RunF Tryz.prog Tryz.f103 none call [1, 1, 0, 0, 0] (SSt.mk [(0, .ptr p 0), (1, .fn 104 [] []), (5, .int .i64 (.ofNat e))] [] .none h) (.exit 0)
      (SSt.mk [(0, .ptr p 0), (1, .fn 104 [] []), (5, .int .i64 (.ofNat e))] [] .none g_1) :=
  sxF_run [0, 1, 5] (hs := [.v (.str t_1), .b true, .b true, .b true, .b true, .b true, .v (.str t_1), .b true, .b true, .v (.int .u8 (.ofNat n_1)), .b true, .c (.bool b_1) g_1, .b true, .b false]) (by kernel_rfl) <| .cons H1 <| .cons H2 <| .cons H2 <| .cons H2 <| .cons H2 <| .cons H2 <| .cons H1 <| .cons H2 <| .cons H2 <| .cons H3 <| .cons H2 <| .cons H4 <| .cons H2 <| .cons H5 <| .nil
theorem rwlB_3 (call : CallT → List AV → AHeap → FRes) (p e : Nat) (h : AHeap) (t_1 : List UInt8)
    (H1 : load1 h p (0 + 0) = some (.str t_1))
    (H2 : ltI (.ofNat e) (.ofNat (List.length t_1)) = false) :
    RunF Tryz.prog Tryz.f103 none call [1, 1, 0, 0, 0] (SSt.mk [(0, .ptr p 0), (1, .fn 104 [] []), (5, .int .i64 (.ofNat e))] [] .none h) (.exit 0)
      (SSt.mk [(0, .ptr p 0), (1, .fn 104 [] []), (5, .int .i64 (.ofNat e))] [] .none h) :=
  sxF_run [0, 1, 5] (hs := [.v (.str t_1), .b false, .b false, .b false, .b false, .b false, .b false, .b false, .b false, .b false, .b false]) (by kernel_rfl) <| .cons H1 <| .cons H2 <| .cons H2 <| .cons H2 <| .cons H2 <| .cons H2 <| .cons H2 <| .cons H2 <| .cons H2 <| .cons H2 <| .cons (by kernel_rfl : false = false) <| .nil
theorem rw (call : CallT → List AV → AHeap → FRes) (p f e : Nat) (h g : AHeap) (n_1 : Nat) (t_1 : List UInt8) (n_2 : Nat) (t_2 : List UInt8) (g_1 : AHeap)
    (H1 : load1 h p (0 + 1) = some (.int .i64 (.ofNat n_1)))
    (H2 : RunF Tryz.prog Tryz.f103 none call [1, 1, 0, 0] (SSt.mk [(5, .int .i64 (.ofNat n_1)), (4, .str []), (0, .ptr p 0), (1, .fn f [] [])] [] .none h) (.exit 0) (SSt.mk [(0, .ptr p 0), (5, .int .i64 (.ofNat e))] [] .none g))
    (H3 : load1 (AHeap.room g 11) p (0 + 0) = some (.str t_1))
    (H4 : load1 (AHeap.room g 11) p (0 + 1) = some (.int .i64 (.ofNat n_2)))
    (H5 : sliceA Tryz.prog (AHeap.room g 11) 9 (AV.str t_1) (some (AV.int IntKind.i64 (Int.ofNat n_2))) (some (AV.int IntKind.i64 (Int.ofNat e))) none = some (AV.str t_2))
    (H6 : AEv.storeCells (AHeap.room g 11) p (0 + 1) [.int .i64 (.ofNat e)] = some g_1) :
    RunF Tryz.prog Tryz.f103 none call [] (SSt.mk [(0, .ptr p 0), (1, .fn f [] [])] [] .none h) (.ret)
      (SSt.mk [(4, .str t_2)] [] .none g_1) :=
  sxF_run [4] (hs := [Hint.v (AV.int IntKind.i64 (Int.ofNat n_1)), Hint.loop (AEx.exit 0) (SSt.mk [(0, AV.ptr p 0), (5, AV.int IntKind.i64 (Int.ofNat e))] [] Rc.none g), Hint.v (AV.str t_1), Hint.v (AV.int IntKind.i64 (Int.ofNat n_2)), Hint.v (AV.str t_2), Hint.vh (AV.tup []) g_1]) (by kernel_rfl) <| .cons H1 <| .cons H2 <| .cons H3 <| .cons H4 <| .cons H5 <| .cons (by kernel_rfl : AV.sound (AV.ptr p 0) = true) <| .cons (by kernel_rfl : AV.ptr p 0 = AV.ptr p 0) <| .cons (by kernel_rfl : AV.sound (AV.ptr p 0) = true) <| .cons (by kernel_rfl : AV.ptr p 0 = AV.ptr p 0) <| .cons (by kernel_rfl : AV.sound (AV.ptr p (0 + 0)) = true) <| .cons (by kernel_rfl : AV.ptr p (0 + 0) = AV.ptr p (0 + 0)) <| .cons (by kernel_rfl : AV.sound (AV.str t_1) = true) <| .cons H3 <| .cons (by kernel_rfl : AV.sound (AV.ptr p 0) = true) <| .cons (by kernel_rfl : AV.ptr p 0 = AV.ptr p 0) <| .cons (by kernel_rfl : AV.sound (AV.ptr p 0) = true) <| .cons (by kernel_rfl : AV.ptr p 0 = AV.ptr p 0) <| .cons (by kernel_rfl : AV.sound (AV.ptr p (0 + 1)) = true) <| .cons (by kernel_rfl : AV.ptr p (0 + 1) = AV.ptr p (0 + 1)) <| .cons (by kernel_rfl : AV.sound (AV.int IntKind.i64 (Int.ofNat n_2)) = true) <| .cons H4 <| .cons (by kernel_rfl : AV.sound (AV.int IntKind.i64 (Int.ofNat e)) = true) <| .cons (by kernel_rfl : AV.int IntKind.i64 (Int.ofNat e) = AV.int IntKind.i64 (Int.ofNat e)) <| .cons (by kernel_rfl : AV.sound (AV.str t_2) = true) <| .cons H5 <| .cons (by kernel_rfl : AV.sound (AV.str t_2) = true) <| .cons (by kernel_rfl : AV.str t_2 = AV.str t_2) <| .cons (⟨by kernel_rfl, H6, rfl⟩ : some 1 = some 1 ∧ AEv.storeCells (AHeap.room g 11) p (0 + 1) [AV.int IntKind.i64 (Int.ofNat e)] = some g_1 ∧ AV.tup [] = AV.tup []) <| .nil
theorem lin (call : CallT → List AV → AHeap → FRes) (p : Nat) (h : AHeap) (t_1 : List UInt8) (n_1 : Nat) (t_2 t_3 t_4 : List UInt8) (b_1 : Bool) (g_1 : AHeap)
    (H1 : load1 (AHeap.room h 17) p (0 + 0) = some (.str t_1))
    (H2 : load1 (AHeap.room h 17) p (0 + 1) = some (.int .i64 (.ofNat n_1)))
    (H3 : sliceA Tryz.prog (AHeap.room h 17) 9 (AV.str t_1) (some (AV.int IntKind.i64 (Int.ofNat n_1))) none none = some (AV.str t_2))
    (H4 : call (.fn 144) [.str t_2, .str [10]] (AHeap.room h 17) = FRes.ret (.tup [.str t_3, .str t_4, .bool b_1]) g_1) :
    RunF Tryz.prog Tryz.f100 none call [] (SSt.mk [(0, .ptr p 0)] [] .none h) (.ret)
      (SSt.mk [(2, .str t_3)] [] .none g_1) :=
  sxF_run [2] (hs := [.v (.str t_1), .v (.int .i64 (.ofNat n_1)), .v (.str t_2), .c (.tup [.str t_3, .str t_4, .bool b_1]) g_1]) (by kernel_rfl) <| .cons H1 <| .cons H2 <| .cons H3 <| .cons H4 <| .cons (by kernel_rfl : AV.sound (AV.ptr p 0) = true) <| .cons (by kernel_rfl : AV.ptr p 0 = AV.ptr p 0) <| .cons (by kernel_rfl : AV.sound (AV.ptr p 0) = true) <| .cons (by kernel_rfl : AV.ptr p 0 = AV.ptr p 0) <| .cons (by kernel_rfl : AV.sound (AV.ptr p (0 + 0)) = true) <| .cons (by kernel_rfl : AV.ptr p (0 + 0) = AV.ptr p (0 + 0)) <| .cons (by kernel_rfl : AV.sound (AV.str t_1) = true) <| .cons H1 <| .cons (by kernel_rfl : AV.sound (AV.ptr p 0) = true) <| .cons (by kernel_rfl : AV.ptr p 0 = AV.ptr p 0) <| .cons (by kernel_rfl : AV.sound (AV.ptr p 0) = true) <| .cons (by kernel_rfl : AV.ptr p 0 = AV.ptr p 0) <| .cons (by kernel_rfl : AV.sound (AV.ptr p (0 + 1)) = true) <| .cons (by kernel_rfl : AV.ptr p (0 + 1) = AV.ptr p (0 + 1)) <| .cons (by kernel_rfl : AV.sound (AV.int IntKind.i64 (Int.ofNat n_1)) = true) <| .cons H2 <| .cons (by kernel_rfl : AV.sound (AV.str t_2) = true) <| .cons H3 <| .cons (by kernel_rfl : AV.sound (AV.tup [AV.str t_3, AV.str t_4, AV.bool b_1]) = true) <| .cons (by kernel_rfl : AV.tup [AV.str t_3, AV.str t_4, AV.bool b_1] = AV.tup [AV.str t_3, AV.str t_4, AV.bool b_1]) <| .cons (by kernel_rfl : AV.sound (AV.str t_3) = true) <| .cons (by kernel_rfl : AV.str t_3 = AV.str t_3) <| .cons (by kernel_rfl : AV.sound (AV.str t_4) = true) <| .cons (by kernel_rfl : AV.str t_4 = AV.str t_4) <| .cons (by kernel_rfl : AV.sound (AV.bool b_1) = true) <| .cons (by kernel_rfl : AV.bool b_1 = AV.bool b_1) <| .cons (by kernel_rfl : AV.sound (AV.str t_3) = true) <| .cons (by kernel_rfl : AV.str t_3 = AV.str t_3) <| .cons (by kernel_rfl : AV.sound (AV.str t_4) = true) <| .cons (by kernel_rfl : AV.str t_4 = AV.str t_4) <| .cons (by kernel_rfl : AV.sound (AV.bool b_1) = true) <| .cons (by kernel_rfl : AV.bool b_1 = AV.bool b_1) <| .nil
theorem scut (call : CallT → List AV → AHeap → FRes) (s t : List UInt8) (h : AHeap) (t_1 t_2 : List UInt8) (b_1 : Bool) (g_1 : AHeap)
    (H1 : call (.fn 173) [.str s, .str t] h = FRes.ret (.tup [.str t_1, .str t_2, .bool b_1]) g_1) :
    RunF Tryz.prog Tryz.f144 none call [] (SSt.mk [(0, .str s), (1, .str t)] [] .none h) (.ret)
      (SSt.mk [(4, .str t_1), (5, .str t_2), (6, .bool b_1)] [] .none g_1) :=
  sxF_run [4, 5, 6] (hs := [.c (.tup [.str t_1, .str t_2, .bool b_1]) g_1]) (by kernel_rfl) <| .cons H1 <| .nil
theorem lcut (call : CallT → List AV → AHeap → FRes) (s : List UInt8) (c : UInt8) (h g : AHeap) (n_1 : Nat) (g_1 : AHeap) (t_1 : List UInt8) (n_2 : Nat) (t_2 : List UInt8)
    (H1 : call (.fn 194) [.str s, .str [c]] h = FRes.ret (.int .i64 (.ofNat n_1)) g_1)
    (H2 : sliceA Tryz.prog (AHeap.room g_1 12) 9 (AV.str s) none (some (AV.int IntKind.i64 (Int.ofNat n_1))) none = some (AV.str t_1))
    (H3 : arith .add .i64 (.ofNat n_1) (.ofNat 1) = some (.int .i64 (.ofNat n_2)))
    (H4 : sliceA Tryz.prog (AHeap.room g_1 12) 9 (AV.str s) (some (AV.int IntKind.i64 (Int.ofNat n_2))) none none = some (AV.str t_2)) :
    RunF Tryz.prog Tryz.f173 none call [] (SSt.mk [(0, .str s), (1, .str [c])] [] .none h) (.ret)
      (SSt.mk [(4, .str t_1), (5, .str t_2), (6, .bool true)] [] .none (AHeap.room g_1 12)) :=
  sxF_run [4, 5, 6] (hs := [.c (.int .i64 (.ofNat n_1)) g_1, .b true, .v (.str t_1), .v (.int .i64 (.ofNat n_2)), .v (.str t_2)]) (by kernel_rfl) <| .cons H1 <| .cons (by kernel_rfl : leI (Int.ofNat 0) (Int.ofNat n_1) = true) <| .cons H2 <| .cons H3 <| .cons H4 <| .cons (by kernel_rfl : AV.sound (AV.str s) = true) <| .cons (by kernel_rfl : AV.str s = AV.str s) <| .cons (by kernel_rfl : AV.sound (AV.int IntKind.i64 (Int.ofNat n_1)) = true) <| .cons (by kernel_rfl : AV.int IntKind.i64 (Int.ofNat n_1) = AV.int IntKind.i64 (Int.ofNat n_1)) <| .cons (by kernel_rfl : AV.sound (AV.str t_1) = true) <| .cons H2 <| .cons (by kernel_rfl : AV.sound (AV.str s) = true) <| .cons (by kernel_rfl : AV.str s = AV.str s) <| .cons (by kernel_rfl : AV.sound (AV.int IntKind.i64 (Int.ofNat n_1)) = true) <| .cons (by kernel_rfl : AV.int IntKind.i64 (Int.ofNat n_1) = AV.int IntKind.i64 (Int.ofNat n_1)) <| .cons (by kernel_rfl : AV.sound (AV.str [c]) = true) <| .cons (by kernel_rfl : AV.str [c] = AV.str [c]) <| .cons (by kernel_rfl : AV.sound (AV.int IntKind.i64 (Int.ofNat 1)) = true) <| .cons (by kernel_rfl : AV.int IntKind.i64 (Int.ofNat 1) = AV.int IntKind.i64 (Int.ofNat 1)) <| .cons (by kernel_rfl : AV.sound (AV.int IntKind.i64 (Int.ofNat n_2)) = true) <| .cons H3 <| .cons (by kernel_rfl : AV.sound (AV.str t_2) = true) <| .cons H4 <| .cons (by kernel_rfl : AV.sound (AV.str t_1) = true) <| .cons (by kernel_rfl : AV.str t_1 = AV.str t_1) <| .cons (by kernel_rfl : AV.sound (AV.str t_2) = true) <| .cons (by kernel_rfl : AV.str t_2 = AV.str t_2) <| .cons (by kernel_rfl : AV.sound (AV.bool true) = true) <| .cons (by kernel_rfl : AV.bool true = AV.bool true) <| .nil
theorem lcutn (call : CallT → List AV → AHeap → FRes) (s : List UInt8) (c : UInt8) (h g : AHeap)
    (H1 : call (.fn 194) [.str s, .str [c]] h = FRes.ret (.int .i64 (.negSucc 0)) g) :
    RunF Tryz.prog Tryz.f173 none call [] (SSt.mk [(0, .str s), (1, .str [c])] [] .none h) (.ret)
      (SSt.mk [(4, .str s), (5, .str []), (6, .bool false)] [] .none g) :=
  sxF_run [4, 5, 6] (hs := [.c (.int .i64 (-1)) g, .b false]) (by kernel_rfl) <| .cons H1 <| .cons (by kernel_rfl : leI (Int.ofNat 0) (Int.negSucc 0) = false) <| .nil
theorem lixb (call : CallT → List AV → AHeap → FRes) (s : List UInt8) (c : Nat) (x : Int) (h g : AHeap)
    (H1 : call (.fn 211) [.str s, .int .u8 (.ofNat c)] h = FRes.ret (.int .i64 x) g) :
    RunF Tryz.prog Tryz.f195 none call [] (SSt.mk [(0, .str s), (1, .int .u8 (.ofNat c))] [] .none h) (.ret)
      (SSt.mk [(4, .int .i64 x)] [] .none g) :=
  sxF_run [4] (hs := [.c (.int .i64 x) g]) (by kernel_rfl) <| .cons H1 <| .nil
theorem wrg (call : CallT → List AV → AHeap → FRes) (a : Nat) (h : AHeap) :
    RunF Tryz.prog Tryz.f106 none call [] (SSt.mk [(0, .int .i64 (.ofNat a))] [] .none h) (.pan (.iface 93 (.ptr (AHeap.n h) 0)))
      (SSt.mk [] [] .none (AHeap.push h (.cells [.int .i64 (.ofNat 10), .int .i64 (.ofNat a)] 26 .own 0 0))) :=
  sxF_run [] (hs := []) (by kernel_rfl) <| .nil
theorem cha_1 (call : CallT → List AV → AHeap → FRes) (p a c r n : Nat) (h g : AHeap) (t_1 t_2 : List UInt8) (n_1 n_2 : Nat) (g_1 : AHeap) (v_1 : AV) (g_2 : AHeap)
    (H1 : load1 h p (0 + 0) = some (.str t_1))
    (H2 : sliceA Tryz.prog h 9 (AV.str t_1) (some (AV.int IntKind.i64 (Int.ofNat a))) none none = some (AV.str t_2))
    (H3 : call (.fn 145) [.str t_2] h = FRes.ret (.tup [.int .i32 (.ofNat n_1), .int .i64 (.ofNat n_2)]) g_1)
    (H4 : eqI (.ofNat c) (.ofNat 65533) = true)
    (H5 : eqI (.ofNat n_2) (.ofNat 1) = true)
    (H6 : call (.fn 106) [.int .i64 (.ofNat a)] g_1 = FRes.pan v_1 g_2) :
    RunF Tryz.prog Tryz.f101 none call [] (SSt.mk [(0, .ptr p 0), (1, .int .i64 (.ofNat a)), (2, .int .i32 (.ofNat c))] [] .none h) (.pan v_1)
      (SSt.mk [] [] .none g_2) :=
  sxF_run [] (hs := [.v (.str t_1), .v (.str t_2), .c (.tup [.int .i32 (.ofNat n_1), .int .i64 (.ofNat n_2)]) g_1, .b true, .b true, .b true, .b true, .p v_1 g_2]) (by kernel_rfl) <| .cons H1 <| .cons H2 <| .cons H3 <| .cons H4 <| .cons H4 <| .cons H4 <| .cons H5 <| .cons H6 <| .nil
theorem cha_2 (call : CallT → List AV → AHeap → FRes) (p a c r n : Nat) (h g : AHeap) (t_1 t_2 : List UInt8) (n_1 n_2 : Nat) (g_1 : AHeap)
    (H1 : load1 h p (0 + 0) = some (.str t_1))
    (H2 : sliceA Tryz.prog h 9 (AV.str t_1) (some (AV.int IntKind.i64 (Int.ofNat a))) none none = some (AV.str t_2))
    (H3 : call (.fn 145) [.str t_2] h = FRes.ret (.tup [.int .i32 (.ofNat n_1), .int .i64 (.ofNat n_2)]) g_1)
    (H4 : eqI (.ofNat c) (.ofNat 65533) = true)
    (H5 : eqI (.ofNat n_2) (.ofNat 1) = false) :
    RunF Tryz.prog Tryz.f101 none call [] (SSt.mk [(0, .ptr p 0), (1, .int .i64 (.ofNat a)), (2, .int .i32 (.ofNat c))] [] .none h) (.nrm)
      (SSt.mk [] [] .none g_1) :=
  sxF_run [] (hs := [.v (.str t_1), .v (.str t_2), .c (.tup [.int .i32 (.ofNat n_1), .int .i64 (.ofNat n_2)]) g_1, .b true, .b true, .b true, .b false]) (by kernel_rfl) <| .cons H1 <| .cons H2 <| .cons H3 <| .cons H4 <| .cons H4 <| .cons H4 <| .cons H5 <| .nil
theorem cha_3 (call : CallT → List AV → AHeap → FRes) (p a c r n : Nat) (h g : AHeap) (t_1 t_2 : List UInt8) (n_1 n_2 : Nat) (g_1 : AHeap)
    (H1 : load1 h p (0 + 0) = some (.str t_1))
    (H2 : sliceA Tryz.prog h 9 (AV.str t_1) (some (AV.int IntKind.i64 (Int.ofNat a))) none none = some (AV.str t_2))
    (H3 : call (.fn 145) [.str t_2] h = FRes.ret (.tup [.int .i32 (.ofNat n_1), .int .i64 (.ofNat n_2)]) g_1)
    (H4 : eqI (.ofNat c) (.ofNat 65533) = false) :
    RunF Tryz.prog Tryz.f101 none call [] (SSt.mk [(0, .ptr p 0), (1, .int .i64 (.ofNat a)), (2, .int .i32 (.ofNat c))] [] .none h) (.nrm)
      (SSt.mk [] [] .none g_1) :=
  sxF_run [] (hs := [.v (.str t_1), .v (.str t_2), .c (.tup [.int .i32 (.ofNat n_1), .int .i64 (.ofNat n_2)]) g_1, .b false, .b false, .b false, .b false]) (by kernel_rfl) <| .cons H1 <| .cons H2 <| .cons H3 <| .cons H4 <| .cons H4 <| .cons H4 <| .cons (by kernel_rfl : false = false) <| .nil
theorem rma (call : CallT → List AV → AHeap → FRes) (p : Nat) (s : List UInt8) (h g : AHeap)
    (H1 : call (.fn 100) [.ptr p 0] h = FRes.ret (.str s) g) :
    RunF Tryz.prog Tryz.f71 none call [0] (SSt.mk [(0, .ptr p 0)] [] .none h) (.nrm)
      (SSt.mk [(0, .ptr p 0), (2, .str s)] [] .none g) :=
  sxF_run [0, 2] (hs := [.c (.str s) g]) (by kernel_rfl) <| .cons H1 <| .nil
theorem rmb (call : CallT → List AV → AHeap → FRes) (p : Nat) (s : List UInt8) (h : AHeap) :
    RunF Tryz.prog Tryz.f71 none call [1, 0, 0] (SSt.mk [(0, .ptr p 0), (2, .str s)] [] .none h) (.nrm)
      (SSt.mk [(0, .ptr p 0), (2, .str s), (8, .ptr (AHeap.n h) 0)] [] .none (AHeap.push h (.strIter s 0))) :=
  sxF_run [0, 2, 8] (hs := []) (by kernel_rfl) <| .nil
theorem rme (call : CallT → List AV → AHeap → FRes) (p : Nat) (s : List UInt8) (h : AHeap) (n_1 n_2 : Nat) (g_1 : AHeap)
    (H1 : load1 h p (0 + 1) = some (.int .i64 (.ofNat n_1)))
    (H2 : arith .add .i64 (.ofNat n_1) (.ofNat (List.length s)) = some (.int .i64 (.ofNat n_2)))
    (H3 : AEv.storeCells h p (0 + 1) [.int .i64 (.ofNat n_2)] = some g_1) :
    RunF Tryz.prog Tryz.f71 none call [1, 1] (SSt.mk [(0, .ptr p 0), (2, .str s)] [] .none h) (.nrm)
      (SSt.mk [] [] .none g_1) :=
  sxF_run [] (hs := [.v (.int .i64 (.ofNat n_1)), .v (.int .i64 (.ofNat n_2)), .vh (.tup []) g_1]) (by kernel_rfl) <| .cons H1 <| .cons H2 <| .cons (⟨by kernel_rfl, H3, rfl⟩ : some 1 = some 1 ∧ AEv.storeCells h p (0 + 1) [AV.int IntKind.i64 (Int.ofNat n_2)] = some g_1 ∧ AV.tup [] = AV.tup []) <| .nil
theorem rmx (call : CallT → List AV → AHeap → FRes) (p it : Nat) (s : List UInt8) (h g : AHeap)
    (H1 : nextA h (AV.ptr it 0) true = some (AV.tup [AV.bool false], g)) :
    RunF Tryz.prog Tryz.f71 none call [1, 0, 1, 0, 0] (SSt.mk [(0, .ptr p 0), (2, .str s), (8, .ptr it 0)] [] .none h) (.exit 0)
      (SSt.mk [(0, .ptr p 0), (2, .str s), (8, .ptr it 0)] [] .none g) :=
  sxF_run [0, 2, 8] (hs := [.vh (.tup [.bool false]) g, .b false]) (by kernel_rfl) <| .cons H1 <| .cons (by kernel_rfl : false = false) <| .nil
theorem rml (call : CallT → List AV → AHeap → FRes) (p it i c : Nat) (s : List UInt8) (h g : AHeap) (n_1 n_2 : Nat) (g_1 : AHeap)
    (H1 : nextA h (AV.ptr it 0) true = some (AV.tup [AV.bool true, AV.int IntKind.i64 (Int.ofNat i), AV.int IntKind.i32 (Int.ofNat c)], g))
    (H2 : load1 g p (0 + 1) = some (.int .i64 (.ofNat n_1)))
    (H3 : arith .add .i64 (.ofNat n_1) (.ofNat i) = some (.int .i64 (.ofNat n_2)))
    (H4 : call (.fn 101) [.ptr p 0, .int .i64 (.ofNat n_2), .int .i32 (.ofNat c)] g = FRes.ret (.tup []) g_1) :
    RunF Tryz.prog Tryz.f71 none call [1, 0, 1, 0, 0] (SSt.mk [(0, .ptr p 0), (2, .str s), (8, .ptr it 0)] [] .none h) (.nrm)
      (SSt.mk [(0, .ptr p 0), (2, .str s), (8, .ptr it 0)] [] .none g_1) :=
  sxF_run [0, 2, 8] (hs := [.vh (.tup [.bool true, .int .i64 (.ofNat i), .int .i32 (.ofNat c)]) g, .b true, .v (.int .i64 (.ofNat n_1)), .v (.int .i64 (.ofNat n_2)), .c (.tup []) g_1]) (by kernel_rfl) <| .cons H1 <| .cons (by kernel_rfl : true = true) <| .cons H2 <| .cons H3 <| .cons H4 <| .nil
theorem nm0 (call : CallT → List AV → AHeap → FRes) (p a : Nat) (h : AHeap) (n_1 : Nat)
    (H1 : load1 h p (0 + 1) = some (.int .i64 (.ofNat n_1))) :
    RunF Tryz.prog Tryz.f107 none call [1, 0] (SSt.mk [(0, .ptr p 0)] [] .none h) (.nrm)
      (SSt.mk [(0, .ptr p 0), (3, .int .i64 (.ofNat n_1)), (4, .int .i64 (.ofNat 0))] [] .none h) :=
  sxF_run [0, 3, 4] (hs := [.v (.int .i64 (.ofNat n_1))]) (by kernel_rfl) <| .cons H1 <| .nil
theorem nm1 (call : CallT → List AV → AHeap → FRes) (p a n b m : Nat) (cp : Cap) (s : List UInt8) (h g g1 : AHeap)
    (H1 : call (.fn 103) [.ptr p 0, .fn 105 [] []] h = FRes.ret (.str s) g)
    (H2 : evConvert Tryz.prog 9 22 (AV.str s) g = OpRes.val (AV.slice b 0 m cp) g1) :
    RunF Tryz.prog Tryz.f107 none call [1, 1, 0, 0] (SSt.mk [(0, .ptr p 0), (3, .int .i64 (.ofNat a)), (4, .int .i64 (.ofNat n))] [] .none h) (.nrm)
      (SSt.mk [(0, .ptr p 0), (3, .int .i64 (.ofNat a)), (4, .int .i64 (.ofNat n)), (14, .slice b 0 m cp), (15, .int .i64 (.ofNat m)), (16, .int .i64 (.ofNat 0))] [] .none g1) :=
  sxF_run [0, 3, 4, 14, 15, 16] (hs := [.c (.str s) g, .vh (.slice b 0 m cp) g1]) (by kernel_rfl) <| .cons H1 <| .cons H2 <| .nil
theorem nml_1 (call : CallT → List AV → AHeap → FRes) (p a n b m i c : Nat) (cp : Cap) (h : AHeap) (n_1 n_2 n_3 n_4 n_5 : Nat) (v_1 : AV) (g_1 : AHeap)
    (H1 : ltI (.ofNat i) (.ofNat m) = true)
    (H2 : Nat.le (Nat.succ i) m)
    (H3 : load1 h b (0 + i * 1) = some (.int .u8 (.ofNat n_1)))
    (H4 : arith .sub .u8 (.ofNat n_1) (.ofNat 48) = some (.int .u8 (.ofNat n_2)))
    (H5 : evConvert Tryz.prog 5 2 (AV.int IntKind.u8 (Int.ofNat n_2)) h = OpRes.val (AV.int IntKind.i64 (Int.ofNat n_3)) h)
    (H6 : arith .sub .i64 (.ofNat 9223372036854775807) (.ofNat n_3) = some (.int .i64 (.ofNat n_4)))
    (H7 : arith .quo .i64 (.ofNat n_4) (.ofNat 10) = some (.int .i64 (.ofNat n_5)))
    (H8 : ltI (.ofNat n_5) (.ofNat n) = true)
    (H9 : call (.fn 106) [.int .i64 (.ofNat a)] h = FRes.pan v_1 g_1) :
    RunF Tryz.prog Tryz.f107 none call [1, 1, 0, 1, 0, 0] (SSt.mk [(0, .ptr p 0), (3, .int .i64 (.ofNat a)), (4, .int .i64 (.ofNat n)), (14, .slice b 0 m cp), (15, .int .i64 (.ofNat m)), (16, .int .i64 (.ofNat i))] [] .none h) (.pan v_1)
      (SSt.mk [(0, .ptr p 0), (3, .int .i64 (.ofNat a)), (4, .int .i64 (.ofNat n)), (14, .slice b 0 m cp), (15, .int .i64 (.ofNat m)), (16, .int .i64 (.ofNat i))] [] .none g_1) :=
  sxF_run [0, 3, 4, 14, 15, 16] (hs := [.b true, .v (.ptr b (0 + i * 1)), .v (.int .u8 (.ofNat n_1)), .v (.int .u8 (.ofNat n_2)), .v (.int .i64 (.ofNat n_3)), .v (.int .i64 (.ofNat n_4)), .v (.int .i64 (.ofNat n_5)), .b true, .p v_1 g_1]) (by kernel_rfl) <| .cons H1 <| .cons (⟨H2, rfl⟩ : Nat.le (Nat.succ i) m ∧ AV.ptr b (0 + i * 1) = AV.ptr b (0 + i * 1)) <| .cons H3 <| .cons H4 <| .cons H5 <| .cons H6 <| .cons H7 <| .cons H8 <| .cons H9 <| .nil
theorem nml_2 (call : CallT → List AV → AHeap → FRes) (p a n b m i c : Nat) (cp : Cap) (h : AHeap) (n_1 n_2 n_3 n_4 n_5 n_6 n_7 n_8 : Nat)
    (H1 : ltI (.ofNat i) (.ofNat m) = true)
    (H2 : Nat.le (Nat.succ i) m)
    (H3 : load1 h b (0 + i * 1) = some (.int .u8 (.ofNat n_1)))
    (H4 : arith .sub .u8 (.ofNat n_1) (.ofNat 48) = some (.int .u8 (.ofNat n_2)))
    (H5 : evConvert Tryz.prog 5 2 (AV.int IntKind.u8 (Int.ofNat n_2)) h = OpRes.val (AV.int IntKind.i64 (Int.ofNat n_3)) h)
    (H6 : arith .sub .i64 (.ofNat 9223372036854775807) (.ofNat n_3) = some (.int .i64 (.ofNat n_4)))
    (H7 : arith .quo .i64 (.ofNat n_4) (.ofNat 10) = some (.int .i64 (.ofNat n_5)))
    (H8 : ltI (.ofNat n_5) (.ofNat n) = false)
    (H9 : arith .mul .i64 (.ofNat 10) (.ofNat n) = some (.int .i64 (.ofNat n_6)))
    (H10 : arith .add .i64 (.ofNat n_6) (.ofNat n_3) = some (.int .i64 (.ofNat n_7)))
    (H11 : arith .add .i64 (.ofNat i) (.ofNat 1) = some (.int .i64 (.ofNat n_8))) :
    RunF Tryz.prog Tryz.f107 none call [1, 1, 0, 1, 0, 0] (SSt.mk [(0, .ptr p 0), (3, .int .i64 (.ofNat a)), (4, .int .i64 (.ofNat n)), (14, .slice b 0 m cp), (15, .int .i64 (.ofNat m)), (16, .int .i64 (.ofNat i))] [] .none h) (.nrm)
      (SSt.mk [(0, .ptr p 0), (3, .int .i64 (.ofNat a)), (4, .int .i64 (.ofNat n_7)), (14, .slice b 0 m cp), (15, .int .i64 (.ofNat m)), (16, .int .i64 (.ofNat n_8))] [] .none h) :=
  sxF_run [0, 3, 4, 14, 15, 16] (hs := [.b true, .v (.ptr b (0 + i * 1)), .v (.int .u8 (.ofNat n_1)), .v (.int .u8 (.ofNat n_2)), .v (.int .i64 (.ofNat n_3)), .v (.int .i64 (.ofNat n_4)), .v (.int .i64 (.ofNat n_5)), .b false, .v (.int .i64 (.ofNat n_6)), .v (.int .i64 (.ofNat n_7)), .v (.int .i64 (.ofNat n_8))]) (by kernel_rfl) <| .cons H1 <| .cons (⟨H2, rfl⟩ : Nat.le (Nat.succ i) m ∧ AV.ptr b (0 + i * 1) = AV.ptr b (0 + i * 1)) <| .cons H3 <| .cons H4 <| .cons H5 <| .cons H6 <| .cons H7 <| .cons H8 <| .cons H9 <| .cons H10 <| .cons H11 <| .nil
theorem nml_3 (call : CallT → List AV → AHeap → FRes) (p a n b m i c : Nat) (cp : Cap) (h : AHeap)
    (H1 : ltI (.ofNat i) (.ofNat m) = false) :
    RunF Tryz.prog Tryz.f107 none call [1, 1, 0, 1, 0, 0] (SSt.mk [(0, .ptr p 0), (3, .int .i64 (.ofNat a)), (4, .int .i64 (.ofNat n)), (14, .slice b 0 m cp), (15, .int .i64 (.ofNat m)), (16, .int .i64 (.ofNat i))] [] .none h) (.exit 0)
      (SSt.mk [(0, .ptr p 0), (3, .int .i64 (.ofNat a)), (4, .int .i64 (.ofNat n)), (14, .slice b 0 m cp), (15, .int .i64 (.ofNat m)), (16, .int .i64 (.ofNat i))] [] .none h) :=
  sxF_run [0, 3, 4, 14, 15, 16] (hs := [.b false]) (by kernel_rfl) <| .cons H1 <| .nil
theorem nme (call : CallT → List AV → AHeap → FRes) (n : Nat) (h : AHeap) :
    RunF Tryz.prog Tryz.f107 none call [1, 1, 1] (SSt.mk [(4, .int .i64 (.ofNat n))] [] .none h) (.ret)
      (SSt.mk [(2, .int .i64 (.ofNat n))] [] .none h) :=
  sxF_run [2] (hs := []) (by kernel_rfl) <| .nil
theorem lidx_1 (call : CallT → List AV → AHeap → FRes) (s : List UInt8) (c : UInt8) (x : Int) (h g : AHeap)
    (H1 : beqBytes [c] s = true) :
    RunF Tryz.prog Tryz.f194 none call [] (SSt.mk [(0, .str s), (1, .str [c])] [] .none h) (.ret)
      (SSt.mk [(4, .int .i64 (.ofNat 0))] [] .none h) :=
  sxF_run [4] (hs := [.b false, .b false, .b false, .b false, .b true]) (by kernel_rfl) <| .cons (by kernel_rfl : eqI (Int.ofNat 1) (Int.ofNat 0) = false) <| .cons (by kernel_rfl : eqI (Int.ofNat 1) (Int.ofNat 0) = false) <| .cons (by kernel_rfl : eqI (Int.ofNat 1) (Int.ofNat 0) = false) <| .cons (by kernel_rfl : eqI (Int.ofNat 1) (Int.ofNat 0) = false) <| .cons H1 <| .nil
theorem lidx_2 (call : CallT → List AV → AHeap → FRes) (s : List UInt8) (c : UInt8) (x : Int) (h g : AHeap) (n_1 : Nat)
    (H1 : beqBytes [c] s = false)
    (H2 : idxS 0 [c] = some (.int .u8 (.ofNat n_1)))
    (H3 : call (.fn 195) [.str s, .int .u8 (.ofNat n_1)] h = FRes.ret (.int .i64 x) g) :
    RunF Tryz.prog Tryz.f194 none call [] (SSt.mk [(0, .str s), (1, .str [c])] [] .none h) (.ret)
      (SSt.mk [(4, .int .i64 x)] [] .none g) :=
  sxF_run [4] (hs := [.b false, .b false, .b false, .b false, .b false, .b true, .v (.int .u8 (.ofNat n_1)), .c (.int .i64 x) g]) (by kernel_rfl) <| .cons (by kernel_rfl : eqI (Int.ofNat 1) (Int.ofNat 0) = false) <| .cons (by kernel_rfl : eqI (Int.ofNat 1) (Int.ofNat 0) = false) <| .cons (by kernel_rfl : eqI (Int.ofNat 1) (Int.ofNat 0) = false) <| .cons (by kernel_rfl : eqI (Int.ofNat 1) (Int.ofNat 0) = false) <| .cons H1 <| .cons (by kernel_rfl : eqI (Int.ofNat 1) (Int.ofNat 1) = true) <| .cons H2 <| .cons H3 <| .nil
theorem rmp (call : CallT → List AV → AHeap → FRes) (p it i c a b : Nat) (s : List UInt8) (v : AV) (h g g1 : AHeap) (n_1 n_2 : Nat)
    (H1 : nextA h (AV.ptr it 0) true = some (AV.tup [AV.bool true, AV.int IntKind.i64 (Int.ofNat i), AV.int IntKind.i32 (Int.ofNat c)], g))
    (H2 : load1 g p (0 + 1) = some (.int .i64 (.ofNat n_1)))
    (H3 : arith .add .i64 (.ofNat n_1) (.ofNat i) = some (.int .i64 (.ofNat n_2)))
    (H4 : call (.fn 101) [.ptr p 0, .int .i64 (.ofNat n_2), .int .i32 (.ofNat c)] g = FRes.pan v g1) :
    RunF Tryz.prog Tryz.f71 none call [1, 0, 1, 0, 0] (SSt.mk [(0, .ptr p 0), (2, .str s), (8, .ptr it 0)] [] .none h) (.pan v)
      (SSt.mk [(0, .ptr p 0), (2, .str s), (8, .ptr it 0)] [] .none g1) :=
  sxF_run [0, 2, 8] (hs := [.vh (.tup [.bool true, .int .i64 (.ofNat i), .int .i32 (.ofNat c)]) g, .b true, .v (.int .i64 (.ofNat n_1)), .v (.int .i64 (.ofNat n_2)), .p v g1]) (by kernel_rfl) <| .cons H1 <| .cons (by kernel_rfl : true = true) <| .cons H2 <| .cons H3 <| .cons H4 <| .nil
theorem nmz (call : CallT → List AV → AHeap → FRes) (p : Nat) (h : AHeap) :
    RunF Tryz.prog Tryz.f107 none call [0] (SSt.mk [(0, .ptr p 0)] [] .none h) (.nrm)
      (SSt.mk [(0, .ptr p 0)] [] .none h) :=
  sxF_run [0] (hs := []) (by kernel_rfl) <| .nil

/-! ### A byte's place in a text -/
theorem ext_ib (n : Nat) (s : List UInt8) (c : Nat) (h : AHeap) (hc : c < 256) : C (n + 1) (.fn 211) [.str s, .int .u8 (Int.ofNat c)] h = .ret (.int .i64 (idxByte c s 0)) h := by
  have hb : Nat.blt c 256 = true := by simpa [Nat.blt_eq] using hc
  have hi : Il 211 [.str s, .int .u8 (Int.ofNat c)] h = none := by kernel_rfl
  have hbo : Tryz.f211.body = none := by rfl
  have hx : externA Tryz.prog Tryz.f211 Tryz.f211.name [.str s, .int .u8 (Int.ofNat c)] h = some (.int .i64 (idxByte c s 0), h) := by
    have hn : Tryz.f211.name = "internal/bytealg.IndexByteString" := by rfl
    simp only [externA, hn, if_true, hb]
  simp only [C, callN, hi, evFn, Tryz.func211, hbo, hx]
theorem sib_c (n : Nat) (s : List UInt8) (c : Nat) (h : AHeap) (hc : c < 256) : C (n + 2) (.fn 195) [.str s, .int .u8 (Int.ofNat c)] h = .ret (.int .i64 (idxByte c s 0)) h :=
  fn_runF (intr := Il) (n := n + 1) (args := [.str s, .int .u8 (Int.ofNat c)]) Tryz.func195 (by kernel_rfl) rfl (by kernel_rfl) (lixb (C (n + 1)) s c _ h h (ext_ib n s c h hc)) (.inl rfl) (by kernel_rfl)
theorem ib_c (n : Nat) (s : List UInt8) (c : Nat) (h : AHeap) (hc : c < 256) : C (n + 3) (.fn 175) [.str s, .int .u8 (Int.ofNat c)] h = .ret (.int .i64 (idxByte c s 0)) h :=
  fn_runF (intr := Il) (n := n + 2) (args := [.str s, .int .u8 (Int.ofNat c)]) Tryz.func175 (by kernel_rfl) rfl (by kernel_rfl) (ixb (C (n + 2)) s c _ h h (sib_c n s c h hc)) (.inl rfl) (by kernel_rfl)
theorem idx_line : ∀ (s : List UInt8) (i : Nat), (idxByte 10 s i = -1 ∧ line s = s) ∨ (idxByte 10 s i = Int.ofNat (i + (line s).length) ∧ (line s).length < s.length)
  | [], i => .inl ⟨rfl, rfl⟩
  | b :: s, i => by
    by_cases hb : b.toNat = 10
    · refine .inr ⟨?_, by rw [line_nl hb]; simp⟩
      have : Nat.beq b.toNat 10 = true := by rw [hb]; rfl
      rw [line_nl hb]
      simp only [idxByte, this]; rfl
    · have : Nat.beq b.toNat 10 = false := by
        cases hx : Nat.beq b.toNat 10 with
        | false => rfl
        | true => exact absurd (Nat.eq_of_beq_eq_true hx) hb
      rw [line_cons hb]
      simp only [idxByte, this]
      rcases idx_line s (i + 1) with ⟨h1, h2⟩ | ⟨h1, h2⟩
      · exact .inl ⟨h1, by rw [h2]⟩
      · refine .inr ⟨?_, by simpa using h2⟩
        rw [h1, List.length_cons]
        congr 1; omega
theorem line_take (s : List UInt8) : s.take (line s).length = line s := by
  have : line s <+: s := List.takeWhile_prefix _
  exact (List.prefix_iff_eq_take.1 this).symm
theorem sl_to {h : AHeap} {s : List UInt8} {k : Nat} (hk : k ≤ s.length) : sliceA Tryz.prog h 9 (.str s) none (some (.int .i64 (Int.ofNat k))) none = some (.str (s.take k)) := slice_str_to strt hk
theorem sl_from {h : AHeap} {s : List UInt8} {k : Nat} (hk : k ≤ s.length) : sliceA Tryz.prog h 9 (.str s) (some (.int .i64 (Int.ofNat k))) none none = some (.str (s.drop k)) := slice_str_from strt hk
theorem scut_c (n : Nat) (s : List UInt8) (h : AHeap) (hs : s.length ≤ 1000000) : ∃ r b h', C (n + 5) (.fn 144) [.str s, .str [10]] h = .ret (.tup [.str (line s), .str r, .bool b]) h' ∧ Ext h.n h h' := by
  have key : ∃ r b h', C (n + 4) (.fn 173) [.str s, .str [10]] h = .ret (.tup [.str (line s), .str r, .bool b]) h' ∧ Ext h.n h h' := by
    have hidx : C (n + 3) (.fn 194) [.str s, .str [10]] h = .ret (.int .i64 (idxByte 10 s 0)) h := by
      cases hb : beqBytes [10] s with
      | true =>
        have hs : s = [10] := by
          rw [beqBytes_eq] at hb
          exact (eq_of_beq hb).symm
        subst hs
        exact fn_runF (intr := Il) (n := n + 2) (args := [.str [10], .str [10]]) Tryz.func194 (by kernel_rfl) rfl (by kernel_rfl) (lidx_1 (C (n + 2)) [10] 10 0 h h hb) (.inl rfl) (by kernel_rfl)
      | false =>
        exact fn_runF (intr := Il) (n := n + 2) (args := [.str s, .str [10]]) Tryz.func194 (by kernel_rfl) rfl (by kernel_rfl) (lidx_2 (C (n + 2)) s 10 _ h h _ hb rfl (sib_c n s 10 h (by decide))) (.inl rfl) (by kernel_rfl)
    rcases idx_line s 0 with ⟨h1, h2⟩ | ⟨h1, h2⟩
    · rw [h1] at hidx
      rw [h2]
      exact ⟨[], false, h, fn_runF (intr := Il) (n := n + 3) (args := [.str s, .str [10]]) Tryz.func173 (by kernel_rfl) rfl (by kernel_rfl) (lcutn (C (n + 3)) s 10 h h hidx) (.inl rfl) (by kernel_rfl), Ext.refl _ _⟩
    · rw [h1, Nat.zero_add] at hidx
      have := fn_runF (intr := Il) (n := n + 3) (args := [.str s, .str [10]]) (h := h) (v := .tup [.str (s.take (line s).length), .str (s.drop ((line s).length + 1)), .bool true]) Tryz.func173 (by kernel_rfl) rfl (by kernel_rfl) (lcut (C (n + 3)) s 10 h h (line s).length h _ _ _ hidx (sl_to (by omega)) (add_n (by omega)) (sl_from (by omega))) (.inl rfl) (by kernel_rfl)
      rw [line_take] at this
      exact ⟨_, true, _, this, Ext.room _ _ _⟩
  obtain ⟨r, b, h', c1, x1⟩ := key
  exact ⟨r, b, h', fn_runF (intr := Il) (n := n + 4) (args := [.str s, .str [10]]) Tryz.func144 (by kernel_rfl) rfl (by kernel_rfl) (scut (C (n + 4)) s [10] h _ _ _ _ c1) (.inl rfl) (by kernel_rfl), x1⟩

/-! ### strings.Builder -/
def BldX (B b : Nat) (h : AHeap) (w : List UInt8) : Prop := ∃ a v, h.get b = some (.cells [a, v] 76 .own 0 0) ∧ (a = .nilP ∨ a = .ptr b 0) ∧ Buf B 5 h v w ∧ b < B ∧ B ≤ h.n ∧ (w = [] → v = .nilS)
theorem ext_ne (n b : Nat) (h : AHeap) : C (n + 1) (.fn 125) [.ptr b 0] h = .ret (.ptr b 0) h := by unfold C; kernel_rfl
theorem chk_c (n b : Nat) (h : AHeap) (v : AV) (hb : b < h.n) (hg : h.get b = some (.cells [.nilP, v] 76 .own 0 0) ∨ h.get b = some (.cells [.ptr b 0, v] 76 .own 0 0)) :
    ∃ h', C (n + 2) (.fn 87) [.ptr b 0] h = .ret (.tup []) h' ∧ h'.get b = some (.cells [.ptr b 0, v] 76 .own 0 0) ∧ h'.n = h.n ∧ ∀ c, c ≠ b → h'.get c = h.get c := by
  rcases hg with hg | hg
  · refine ⟨h.set b (some (.cells [.ptr b 0, v] 76 .own 0 0)), ?_, gsame rfl, rfl, fun c hc => gother hc rfl⟩
    have f1 : Tryz.prog.underlying 74 = some (.pointer 76) := by kernel_rfl
    have f2 : Tryz.prog.underlying 164 = some .unsafePointer := by kernel_rfl
    have f3 : sizeT Tryz.prog 76 = some 2 := by kernel_rfl
    have f4 : liesAt Tryz.prog Tryz.prog.depth 76 (2 / Tryz.prog.cellsOf 76) 0 76 1 = true := by kernel_rfl
    have v1 : evConvert Tryz.prog 74 164 (AV.ptr b 0) h = OpRes.val (AV.ptr b 0) h := by
      simp only [evConvert, f1, f2, f3, hg]; rfl
    have v2 : evConvert Tryz.prog 164 74 (AV.ptr b 0) h = OpRes.val (AV.ptr b 0) h := by
      simp only [evConvert, f1, f2, f3, hg, List.length_cons, List.length_nil, f4]; rfl
    have hr := ba1 (C (n + 1)) b h _ (ld1 hg rfl) v1 (ext_ne n b h) v2 (stc hg rfl rfl)
    exact fn_runF (intr := Il) (n := n + 1) (args := [.ptr b 0]) Tryz.func87 (by kernel_rfl) rfl (by kernel_rfl) hr (.inr rfl) (by kernel_rfl)
  · refine ⟨h, ?_, hg, rfl, fun c _ => rfl⟩
    have he : binA Tryz.prog h BinOp.neq 74 (Operand.tmp 17) (Operand.tmp 18) (AV.ptr b 0) (AV.ptr b 0) = some (AV.bool false) := by
      have e1 : Tryz.prog.underlying 74 = some (.pointer 76) := by kernel_rfl
      have e2 : sizeT Tryz.prog 76 = some 2 := by kernel_rfl
      have e3 : Nat.beq b b = true := by simp
      simp only [binA, eqOK, eqA, e1, e2, eqPtr, e3]
      rfl
    exact fn_runF (intr := Il) (n := n + 1) (args := [.ptr b 0]) Tryz.func87 (by kernel_rfl) rfl (by kernel_rfl) (ba2 (C (n + 1)) b h false (ld1 hg rfl) he rfl) (.inr rfl) (by kernel_rfl)
theorem chk_b (n b B : Nat) (h : AHeap) (w : List UInt8) (hb : BldX B b h w) : ∃ h' v, C (n + 2) (.fn 87) [.ptr b 0] h = .ret (.tup []) h' ∧ h'.get b = some (.cells [.ptr b 0, v] 76 .own 0 0) ∧ Buf B 5 h' v w ∧ h'.n = h.n ∧ (∀ c, c ≠ b → h'.get c = h.get c) := by
  obtain ⟨a, v, h1, h2, h3, h4, h5, _⟩ := hb
  obtain ⟨h', c1, c2, c3, c4⟩ := chk_c n b h v (by omega) (by rcases h2 with rfl | rfl; exact .inl h1; exact .inr h1)
  exact ⟨h', v, c1, c2, h3.ext (by omega) fun c hc _ => c4 c (by omega), c3, c4⟩
theorem u8info : ∃ i, Tryz.prog.info? 5 = some i ∧ i.size = 1 ∧ i.bytes = 1 := by
  have hi : (Tryz.prog.info? 5).map (fun i => (i.size, i.bytes)) = some (1, 1) := by kernel_rfl
  cases hii : Tryz.prog.info? 5 with
  | none => rw [hii] at hi; cases hi
  | some i =>
    rw [hii] at hi
    simp only [Option.map_some, Option.some.injEq, Prod.mk.injEq] at hi
    exact ⟨i, rfl, hi.1, hi.2⟩
theorem room_u8 {i : TypeInfo} (hi : i.bytes = 1) {n : Nat} (hn : n ≤ 1000000000) : roomOK n i.bytes = true := by
  rw [hi]
  have : (4 * n + 2048) * (1 + 1) ≤ 281474976710656 := by omega
  simpa [roomOK] using this
/-- The builder's new row. -/
theorem bld_put {b B : Nat} {h h1 h2 : AHeap} {v v' : AV} {w : List UInt8} (hb : b < B) (hB : B ≤ h.n) (g1 : h1.get b = some (.cells [.ptr b 0, v] 76 .own 0 0)) (n1 : h1.n = h.n) (o1 : ∀ c, c ≠ b → h1.get c = h.get c) (x : Ext B h1 h2) (hw : Buf B 5 h2 v' w) (hne : w ≠ []) :
    h2.get b = some (.cells [.ptr b 0, v] 76 .own 0 0) ∧ BldX B b (h2.set b (some (.cells [.ptr b 0, v'] 76 .own 0 0))) w ∧ ExtX b B h (h2.set b (some (.cells [.ptr b 0, v'] 76 .own 0 0))) := by
  have hn := x.n
  refine ⟨(x.get b hb).trans g1, ⟨.ptr b 0, v', gsame rfl, .inr rfl, hw.ext (by simp) fun c hc _ => gother (by omega) rfl, hb, by simp; omega, fun e => absurd e hne⟩, ⟨by simp; omega, fun c hc hcb => ?_⟩⟩
  exact gother hcb ((x.get c hc).trans (o1 c hcb))
theorem wr_c (n b B : Nat) (h : AHeap) (w s : List UInt8) (hb : BldX B b h w) (hl : w.length + s.length ≤ 1000000000) (hs : s ≠ []) : ∃ h', C (n + 3) (.fn 61) [.ptr b 0, .str s] h = .ret (.tup [.int .i64 (Int.ofNat s.length), .nilI]) h' ∧ BldX B b h' (w ++ s) ∧ ExtX b B h h' := by
  obtain ⟨h1, v, c1, g1, b1, n1, o1⟩ := chk_b n b B h w hb
  obtain ⟨_, _, _, _, _, hbB, hBn, _⟩ := hb
  obtain ⟨i, hii, hi1, hi2⟩ := u8info
  obtain ⟨v', h2, a1, a2, a3⟩ := appendB (P := Tryz.prog) (B := B) (sT := 22) (xT := some 9) (e := 5) (z := .int .u8 (Int.ofNat 0)) (by omega) (by kernel_rfl) (by kernel_rfl) hii hi1 (by kernel_rfl) rfl (room_u8 hi2 hl) b1
  obtain ⟨g2, hB, hE⟩ := bld_put hbB hBn g1 n1 o1 a3 a2 (by simp [hs])
  refine ⟨_, ?_, hB, hE⟩
  rcases a2 with ⟨rfl, _⟩ | ⟨c, r, rfl, _⟩
  · exact fn_runF (intr := Il) (n := n + 2) (args := [.ptr b 0, .str s]) Tryz.func61 (by kernel_rfl) rfl (by kernel_rfl) (bwn (C (n + 2)) b s v h h2 h1 _ c1 (ld1 g1 rfl) a1 (stc g2 rfl rfl)) (.inl rfl) (by kernel_rfl)
  · exact fn_runF (intr := Il) (n := n + 2) (args := [.ptr b 0, .str s]) Tryz.func61 (by kernel_rfl) rfl (by kernel_rfl) (bws (C (n + 2)) b c _ s v h h2 h1 _ c1 (ld1 g1 rfl) a1 (stc g2 rfl rfl)) (.inl rfl) (by kernel_rfl)
theorem bst_c (n b B : Nat) (h : AHeap) (w : List UInt8) (hb : BldX B b h w) (hl : w.length ≤ 1000000000) : ∃ h', C (n + 1) (.fn 25) [.ptr b 0] h = .ret (.str w) h' ∧ Ext B h h' := by
  obtain ⟨a, v, g, ha, hv, hbB, hn, hnil⟩ := hb
  rcases hv with ⟨rfl, rfl⟩ | ⟨c, rest, rfl, hc, hc1, hc2⟩
  · have hus : unsafeStrA Tryz.prog (AHeap.room h 12) 123 AV.nilP (AV.int IntKind.i64 (Int.ofNat 0)) = some (.str [], AHeap.room h 12) := by kernel_rfl
    exact ⟨_, fn_runF (intr := Il) (n := n) (args := [.ptr b 0]) Tryz.func25 (by kernel_rfl) rfl (by kernel_rfl) (bs0 (C n) b h [] _ (ld1 (h := h.room 12) g rfl) hus) (.inl rfl) (by kernel_rfl), Ext.room _ _ _⟩
  · by_cases hw : w = []
    · exact absurd (hnil hw) (by simp)
    · have hne : w.length ≠ 0 := by cases w <;> simp at hw ⊢
      have hsd : evBuiltin Tryz.prog Builtin.unsafeSliceData (Array.mk [22]) [AV.slice c 0 w.length (Cap.opn 1)] (AHeap.room h 12) = OpRes.val (AV.ptr c 0) (AHeap.room h 12) := by
        simp only [evBuiltin]
        exact if_neg hne
      have hus := unsafeStr_row (P := Tryz.prog) (h := h.room 12) (pT := 123) (u := 5) (c := c) (e := 5) (w := w) (rest := rest) hw (by omega) (by kernel_rfl) (by kernel_rfl) (by kernel_rfl) hc
      exact ⟨_, fn_runF (intr := Il) (n := n) (args := [.ptr b 0]) Tryz.func25 (by kernel_rfl) rfl (by kernel_rfl) (bst (C n) b c w.length h w _ (ld1 (h := h.room 12) g rfl) hsd hus) (.inl rfl) (by kernel_rfl),
        (Ext.room B h 12).trans (Nat.le_refl _) (Ext.set (by omega) _)⟩
/-! ### utf8.AppendRune -/
theorem enc_lt (r : Nat) : (encP r).length ≤ 4 ∧ encP r ≠ [] := by
  unfold encP
  split
  · exact ⟨by simp, by simp⟩
  · split
    · exact ⟨by simp, by simp⟩
    · split
      · exact ⟨by simp, by simp⟩
      · exact ⟨by simp, by simp⟩
theorem of_u8 {n : Nat} (h : n < 256) : (UInt8.ofNat n).toNat = n := by
  rw [UInt8.toNat_ofNat']; exact Nat.mod_eq_of_lt h
theorem app_bytes {B : Nat} {h : AHeap} {v : AV} {w s : List UInt8} {cs : List AV} (hB : B ≤ h.n) (hb : Buf B 5 h v w) (hl : w.length + s.length ≤ 1000000000) (hcs : cs = byteCells s) (hs : s ≠ []) :
    ∃ c h', appendA Tryz.prog (h.push (.cells cs 5 .own 0 0)) 22 (some 22) v (.slice h.n 0 s.length (.exact s.length)) = some (.slice c 0 (w.length + s.length) (.opn 1), h') ∧ Buf B 5 h' (.slice c 0 (w.length + s.length) (.opn 1)) (w ++ s) ∧ Ext B h h' := by
  subst hcs
  obtain ⟨i, hii, hi1, hi2⟩ := u8info
  have hb' : Buf B 5 (h.push (.cells (byteCells s) 5 .own 0 0)) v w := hb.ext (by simp) fun c _ hc => gold hc rfl
  have hsc : srcCells (h.push (.cells (byteCells s) 5 .own 0 0)) 1 (.slice h.n 0 s.length (.exact s.length)) = some (s.length, byteCells s) := by
    have : AEv.loadCells (h.push (.cells (byteCells s) 5 .own 0 0)) h.n 0 (s.length * 1) = some (byteCells s) := by
      have := load_row (h := h.push (.cells (byteCells s) 5 .own 0 0)) (b := h.n) (xs := byteCells s) (rest := []) (by rw [List.append_nil]; exact gtop rfl)
      rw [byteCells_len] at this
      rw [Nat.mul_one]; exact this
    simp only [srcCells, this]
  obtain ⟨v', h2, a1, a2, a3⟩ := appendBs (P := Tryz.prog) (B := B) (sT := 22) (xT := some 22) (e := 5) (z := .int .u8 (Int.ofNat 0)) (by simp; omega) (by kernel_rfl) (by kernel_rfl) hii hi1 (by kernel_rfl) rfl (room_u8 hi2 hl) hsc hb'
  have hx : Ext B h h2 := (Ext.push hB _).trans (Nat.le_refl _) a3
  rcases a2 with ⟨_, he⟩ | ⟨c, r, rfl, q1, q2, q3⟩
  · simp [hs] at he
  · rw [List.length_append] at a1
    exact ⟨c, h2, a1, .inr ⟨c, r, by rw [List.length_append], q1, q2, q3⟩, hx⟩
theorem or8 (j : Nat) {p b q : Nat} (hp : p % 2 ^ j = 0) (hb : b < 2 ^ j) (h : p + b < 256) (hq : q = p + b) : arith BinOp.or IntKind.u8 (Int.ofNat p) (Int.ofNat b) = some (AV.int IntKind.u8 (Int.ofNat q)) := by
  subst hq; exact or_u8' j hp hb h
theorem an_c (m r B : Nat) (v : AV) (w : List UInt8) (h : AHeap) (hB : B ≤ h.n) (hb : Buf B 5 h v w) (hl : w.length + 4 ≤ 1000000000) (hr : 128 ≤ r ∧ r ≤ 1114111) (hv : vld r = true) :
    ∃ c h', C (m + 1) (.fn 196) [v, .int .i32 (Int.ofNat r)] h = .ret (.slice c 0 (w.length + (encP r).length) (.opn 1)) h' ∧ Buf B 5 h' (.slice c 0 (w.length + (encP r).length) (.opn 1)) (w ++ encP r) ∧ Ext B h h' := by
  obtain ⟨r1, r2⟩ := hr
  have hvi := (valid_iff r).1 hv
  have v0 := cv_i32_u32 (P := Tryz.prog) (h := h) i32t u32t (show r < 4294967296 by omega)
  have sh (j : Nat) (hj : j ≤ 32) : shiftA BinOp.shr IntKind.i32 (Int.ofNat r) (Int.ofNat j) = some (.int .i32 (Int.ofNat (r / 2 ^ j))) := shr_k .i32 hj
  have cv (n : Nat) : evConvert Tryz.prog 21 5 (.int .i32 (Int.ofNat n)) h = .val (.int .u8 (Int.ofNat (n % 256))) h := cv_i32_u8 i32t u8t
  have an (n : Nat) : arith BinOp.and IntKind.u8 (Int.ofNat (n % 256)) (Int.ofNat 63) = some (.int .u8 (Int.ofNat (n % 256 % 64))) := and_j 6 (by omega) (by decide)
  by_cases h2 : r < 2048
  · have e : encP r = [UInt8.ofNat (192 + r / 64), UInt8.ofNat (128 + r % 64)] := by unfold encP; rw [if_neg (by omega), if_pos h2]
    rw [e]
    obtain ⟨c, g, a1, a2, a3⟩ := app_bytes (s := [UInt8.ofNat (192 + r / 64), UInt8.ofNat (128 + r % 64)]) (cs := [.int .u8 (Int.ofNat (192 + r / 64)), .int .u8 (Int.ofNat (128 + r % 64))]) hB hb (by simp; omega)
      (by simp only [byteCells, of_u8 (show 192 + r / 64 < 256 by omega), of_u8 (show 128 + r % 64 < 256 by omega)]) (by simp)
    exact ⟨c, g, fn_runF (intr := Il) (n := m) (args := [v, .int .i32 (Int.ofNat r)]) Tryz.func196 (by kernel_rfl) rfl (by kernel_rfl) (an2 (C m) r c (w.length + 2) v h g _ _ _ _ _ _ _ v0 (le_t (by omega)) (sh 6 (by decide)) (cv _) (or8 6 (q := 192 + r / 64) (by omega) (by omega) (by omega) (by omega)) (cv r) (an r) (or8 6 (q := 128 + r % 64) (by omega) (by omega) (by omega) (by omega)) a1) (.inl rfl) (by kernel_rfl), a2, a3⟩
  · by_cases h3 : r < 65536
    · have e : encP r = [UInt8.ofNat (224 + r / 4096), UInt8.ofNat (128 + r / 64 % 64), UInt8.ofNat (128 + r % 64)] := by unfold encP; rw [if_neg (by omega), if_neg h2, if_pos h3]
      rw [e]
      obtain ⟨c, g, a1, a2, a3⟩ := app_bytes (s := [UInt8.ofNat (224 + r / 4096), UInt8.ofNat (128 + r / 64 % 64), UInt8.ofNat (128 + r % 64)]) (cs := [.int .u8 (Int.ofNat (224 + r / 4096)), .int .u8 (Int.ofNat (128 + r / 64 % 64)), .int .u8 (Int.ofNat (128 + r % 64))]) hB hb (by simp; omega)
        (by simp only [byteCells, of_u8 (show 224 + r / 4096 < 256 by omega), of_u8 (show 128 + r / 64 % 64 < 256 by omega), of_u8 (show 128 + r % 64 < 256 by omega)]) (by simp)
      have o1 := or8 5 (p := 224) (b := r / 2 ^ 12 % 256) (q := 224 + r / 4096) (by omega) (by omega) (by omega) (by omega)
      have o2 := or8 6 (p := 128) (b := r / 2 ^ 6 % 256 % 64) (q := 128 + r / 64 % 64) (by omega) (by omega) (by omega) (by omega)
      have o3 := or8 6 (p := 128) (b := r % 256 % 64) (q := 128 + r % 64) (by omega) (by omega) (by omega) (by omega)
      by_cases h4 : r < 55296
      · exact ⟨c, g, fn_runF (intr := Il) (n := m) (args := [v, .int .i32 (Int.ofNat r)]) Tryz.func196 (by kernel_rfl) rfl (by kernel_rfl) (an3a (C m) r c (w.length + 3) v h g _ _ _ _ _ _ _ _ _ _ _ v0 (le_f (by omega)) (lt_t h4) (sh 12 (by decide)) (cv _) o1 (sh 6 (by decide)) (cv _) (an _) o2 (cv r) (an r) o3 a1) (.inl rfl) (by kernel_rfl), a2, a3⟩
      · exact ⟨c, g, fn_runF (intr := Il) (n := m) (args := [v, .int .i32 (Int.ofNat r)]) Tryz.func196 (by kernel_rfl) rfl (by kernel_rfl) (an3b (C m) r c (w.length + 3) v h g _ _ _ _ _ _ _ _ _ _ _ v0 (le_f (by omega)) (lt_f h4) (lt_t (by omega)) (le_t (by omega)) (sh 12 (by decide)) (cv _) o1 (sh 6 (by decide)) (cv _) (an _) o2 (cv r) (an r) o3 a1) (.inl rfl) (by kernel_rfl), a2, a3⟩
    · have e : encP r = [UInt8.ofNat (240 + r / 262144), UInt8.ofNat (128 + r / 4096 % 64), UInt8.ofNat (128 + r / 64 % 64), UInt8.ofNat (128 + r % 64)] := by unfold encP; rw [if_neg (by omega), if_neg h2, if_neg h3]
      rw [e]
      obtain ⟨c, g, a1, a2, a3⟩ := app_bytes (s := [UInt8.ofNat (240 + r / 262144), UInt8.ofNat (128 + r / 4096 % 64), UInt8.ofNat (128 + r / 64 % 64), UInt8.ofNat (128 + r % 64)]) (cs := [.int .u8 (Int.ofNat (240 + r / 262144)), .int .u8 (Int.ofNat (128 + r / 4096 % 64)), .int .u8 (Int.ofNat (128 + r / 64 % 64)), .int .u8 (Int.ofNat (128 + r % 64))]) hB hb (by simp; omega)
        (by simp only [byteCells, of_u8 (show 240 + r / 262144 < 256 by omega), of_u8 (show 128 + r / 4096 % 64 < 256 by omega), of_u8 (show 128 + r / 64 % 64 < 256 by omega), of_u8 (show 128 + r % 64 < 256 by omega)]) (by simp)
      have o1 := or8 4 (p := 240) (b := r / 2 ^ 18 % 256) (q := 240 + r / 262144) (by omega) (by omega) (by omega) (by omega)
      have o2 := or8 6 (p := 128) (b := r / 2 ^ 12 % 256 % 64) (q := 128 + r / 4096 % 64) (by omega) (by omega) (by omega) (by omega)
      have o3 := or8 6 (p := 128) (b := r / 2 ^ 6 % 256 % 64) (q := 128 + r / 64 % 64) (by omega) (by omega) (by omega) (by omega)
      have o4 := or8 6 (p := 128) (b := r % 256 % 64) (q := 128 + r % 64) (by omega) (by omega) (by omega) (by omega)
      exact ⟨c, g, fn_runF (intr := Il) (n := m) (args := [v, .int .i32 (Int.ofNat r)]) Tryz.func196 (by kernel_rfl) rfl (by kernel_rfl) (an4 (C m) r c (w.length + 4) v h g _ _ _ _ _ _ _ _ _ _ _ _ _ _ _ v0 (le_f (by omega)) (lt_f (by omega)) (lt_t (by omega)) (le_f (by omega)) (lt_t (by omega)) (le_t (by omega)) (sh 18 (by decide)) (cv _) o1 (sh 12 (by decide)) (cv _) (an _) o2 (sh 6 (by decide)) (cv _) (an _) o3 (cv r) (an r) o4 a1) (.inl rfl) (by kernel_rfl), a2, a3⟩
theorem ar_c (m r B : Nat) (v : AV) (w : List UInt8) (h : AHeap) (hB : B ≤ h.n) (hb : Buf B 5 h v w) (hl : w.length + 4 ≤ 1000000000) (hr : r ≤ 1114111) (hv : vld r = true) :
    ∃ c h', C (m + 2) (.fn 179) [v, .int .i32 (Int.ofNat r)] h = .ret (.slice c 0 (w.length + (encP r).length) (.opn 1)) h' ∧ Buf B 5 h' (.slice c 0 (w.length + (encP r).length) (.opn 1)) (w ++ encP r) ∧ Ext B h h' := by
  have v0 := cv_i32_u32 (P := Tryz.prog) (h := h) i32t u32t (show r < 4294967296 by omega)
  by_cases h1 : r < 128
  · have e : encP r = [UInt8.ofNat r] := by unfold encP; rw [if_pos h1]
    rw [e]
    obtain ⟨c, g, a1, a2, a3⟩ := app_bytes (s := [UInt8.ofNat r]) (cs := [.int .u8 (Int.ofNat (r % 256))]) hB hb (by simp; omega) (by simp only [byteCells, of_u8 (show r < 256 by omega), Nat.mod_eq_of_lt (show r < 256 by omega)]) (by simp)
    exact ⟨c, g, fn_runF (intr := Il) (n := m + 1) (args := [v, .int .i32 (Int.ofNat r)]) Tryz.func179 (by kernel_rfl) rfl (by kernel_rfl) (apr (C (m + 1)) r c (w.length + 1) v h g _ _ v0 (le_t (by omega)) (cv_i32_u8 i32t u8t) a1) (.inl rfl) (by kernel_rfl), a2, a3⟩
  · obtain ⟨c, g, a1, a2, a3⟩ := an_c m r B v w h hB hb hl ⟨by omega, hr⟩ hv
    exact ⟨c, g, fn_runF (intr := Il) (n := m + 1) (args := [v, .int .i32 (Int.ofNat r)]) Tryz.func179 (by kernel_rfl) rfl (by kernel_rfl) (apn (C (m + 1)) r c _ v h g _ v0 (le_f (by omega)) a1) (.inl rfl) (by kernel_rfl), a2, a3⟩
end Go.Proofs.Lx

namespace Go.Proofs.Lx
open Go AEv Go.Proofs Lexp Go.ChangeShapes
set_option maxRecDepth 100000
set_option maxHeartbeats 1000000

/-! ### Tables, where a law begins -/
def acceptP : List (Nat × Nat) := [(128, 191), (160, 191), (128, 159), (144, 191), (128, 143), (0, 0), (0, 0), (0, 0), (0, 0), (0, 0), (0, 0), (0, 0), (0, 0), (0, 0), (0, 0), (0, 0)]
theorem tabs_at {W : World} {g0 g1 g3 t0 t1 t3 f0 f1 f3 : Nat} {cs0 cs1 cs3 : Array Value} {p0 p1 p3 : List MemPlace} {d0 d1 d3 : DataW Unit}
    (hg0 : Tryz.prog.globalNamed "unicode/utf8.acceptRanges" = some g0) (ht0 : (Tryz.prog.globals[g0]?).map (·.type) = some t0) (hv0 : W.var? Tryz.prog "unicode/utf8.acceptRanges" = some cs0) (hd0 : DataW.trod (fun _ => ()) Tryz.prog W 0 (fun _ => true) false f0 t0 cs0.toList = some (d0, p0)) (hx0 : d0 = .agg (acceptP.map fun x => .agg [.lit (.int .u8 (Int.ofNat x.1)), .lit (.int .u8 (Int.ofNat x.2))]))
    (hg1 : Tryz.prog.globalNamed "strings.asciiSpace" = some g1) (ht1 : (Tryz.prog.globals[g1]?).map (·.type) = some t1) (hv1 : W.var? Tryz.prog "strings.asciiSpace" = some cs1) (hd1 : DataW.trod (fun _ => ()) Tryz.prog W 0 (fun _ => true) false f1 t1 cs1.toList = some (d1, p1)) (hx1 : d1 = .agg (asciiL.map fun x => .lit (.int .u8 (Int.ofNat x))))
    (hg3 : Tryz.prog.globalNamed "unicode/utf8.first" = some g3) (ht3 : (Tryz.prog.globals[g3]?).map (·.type) = some t3) (hv3 : W.var? Tryz.prog "unicode/utf8.first" = some cs3) (hd3 : DataW.trod (fun _ => ()) Tryz.prog W 0 (fun _ => true) false f3 t3 cs3.toList = some (d3, p3)) (hx3 : d3 = .agg (firstL.map fun x => .lit (.int .u8 (Int.ofNat x)))) :
    ∀ t ∈ tabs, t.g < Tryz.prog.globals.size ∧ TabAt W (elsW W) t := by
  have e0 : g0 = 3 := Option.some.inj (hg0.symm.trans (by kernel_rfl))
  have e1 : g1 = 0 := Option.some.inj (hg1.symm.trans (by kernel_rfl))
  have e3 : g3 = 2 := Option.some.inj (hg3.symm.trans (by kernel_rfl))
  subst e0; subst e1; subst e3
  have u0 : (Tryz.prog.globals[3]?).map (·.type) = some 251 := by kernel_rfl
  have u1 : t1 = 195 := Option.some.inj (ht1.symm.trans (by kernel_rfl))
  have u3 : t3 = 195 := Option.some.inj (ht3.symm.trans (by kernel_rfl))
  have u0 : t0 = 251 := Option.some.inj (ht0.symm.trans u0)
  subst u0; subst u1; subst u3
  have ha : Tryz.prog.underlying 195 = some (.array 256 5) := by kernel_rfl
  have hu : Tryz.prog.underlying 5 = some (.int .u8) := by kernel_rfl
  have hc : Tryz.prog.cellsOf 5 = 1 := by kernel_rfl
  have hacc : acceptL = pairsL acceptP := rfl
  intro t ht
  refine ⟨tabs_lt t ht, ?_⟩
  simp only [tabs, List.mem_cons, List.not_mem_nil, or_false] at ht
  rcases ht with rfl | rfl | rfl
  · exact tab_laid ha hu hc hg1 hv1 hd1 asciiL hx1
  · exact tab_laid ha hu hc hg3 hv3 hd3 firstL hx3
  · rw [hacc]
    have hk : (Tryz.prog.underlying 251) = some (.array 16 250) := by kernel_rfl
    have hs : (match Tryz.prog.underlying 250 with | some (.struct fs) => (fs.toList.map fun f => (f.type, f.offset)) | _ => []) = [(5, 0), (5, 1)] := by kernel_rfl
    cases hq : Tryz.prog.underlying 250 with
    | none => rw [hq] at hs; cases hs
    | some q =>
      rw [hq] at hs
      cases q with
      | struct fs =>
        simp only at hs
        obtain ⟨l⟩ := fs
        match l, hs with
        | [a, b], hs =>
          simp only [List.map_cons, List.map_nil, List.cons.injEq, Prod.mk.injEq, and_true] at hs
          obtain ⟨⟨a1, a2⟩, b1, b2⟩ := hs
          exact tab_laid2 hk hq (by kernel_rfl) (by rw [a1]; exact hu) (by rw [b1]; exact hu) (by rw [a1]; exact hc) (by rw [b1]; exact hc) a2 b2 hg0 hv0 hd0 acceptP hx0
      | _ => cases hs
end Go.Proofs.Lx
