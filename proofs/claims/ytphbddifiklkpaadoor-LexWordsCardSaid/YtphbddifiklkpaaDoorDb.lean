/-
  PROVED HERE: contracts of functions (Db). No condition beside each statement's own.
-/
import Derived.Test.YtphbddifiklkpaaDoorDa
import Derived.Test.YtphbddifiklkpaaDoorSxa
import Derived.Test.YtphbddifiklkpaaDoorProg
set_option linter.unusedVariables false
set_option linter.unusedSimpArgs false
namespace Go.Proofs.Lexw
open Go AEv Go.Proofs
set_option maxRecDepth 100000
set_option maxHeartbeats 1000000

theorem lw (call : CallT → List AV → AHeap → FRes) (s : List UInt8) (b : Bool) (h g1 g2 g3 : AHeap)
    (H1 : call (.fn 9) [.str s] h = FRes.ret (.bool b) g1)
    (H2 : call (.fn 10) [.str s] g1 = FRes.ret (.bool b) g2)
    (H3 : binA Tryd.prog g2 BinOp.eql 4 (Operand.tmp 4) (Operand.tmp 6) (AV.bool b) (AV.bool b) = some (AV.bool true))
    (H4 : call (.fn 11) [] g2 = FRes.ret (.bool true) g3) :
    RunF Tryd.prog Tryd.f3 none call [] (SSt.mk [(0, .str s)] [] .none h) (.ret)
      (SSt.mk [(2, .bool true)] [] .none g3) :=
  sxF_run [2] (hs := [.c (.bool b) g1, .c (.bool b) g2, .v (.bool true), .b true, .c (.bool true) g3, .b true]) (by kernel_rfl) <| .cons H1 <| .cons H2 <| .cons H3 <| .cons (by kernel_rfl : true = true) <| .cons H4 <| .cons (by kernel_rfl : true = true) <| .nil
theorem rv (call : CallT → List AV → AHeap → FRes) (s : List UInt8) (b : Bool) (r : Nat) (h g : AHeap)
    (H1 : call (.fn 18) [] h = FRes.ret (.map r) g)
    (H2 : lookupA Tryd.prog g 46 (AV.map r) (AV.str s) false = some (AV.bool b)) :
    RunF Tryd.prog Tryd.f9 none call [] (SSt.mk [(0, .str s)] [] .none h) (.ret)
      (SSt.mk [(2, .bool b)] [] .none g) :=
  sxF_run [2] (hs := [.c (.map r) g, .v (.bool b)]) (by kernel_rfl) <| .cons H1 <| .cons H2 <| .nil
theorem rr0 (call : CallT → List AV → AHeap → FRes) (s : List UInt8) (h : AHeap) :
    RunF Tryd.prog Tryd.f10 none call [0] (SSt.mk [(0, .str s)] [] .none h) (.nrm)
      (SSt.mk [(0, .str s), (2, .bool false)] [] .none h) :=
  sxF_run [0, 2, 3] (hs := []) (by kernel_rfl) <| .nil
theorem rr1 (call : CallT → List AV → AHeap → FRes) (s : List UInt8) (h : AHeap) :
    RunF Tryd.prog Tryd.f10 none call [1, 0] (SSt.mk [(0, .str s)] [] .none h) (.nrm)
      (SSt.mk [(0, .str s), (3, .slice (AHeap.n h) 0 22 (.exact 22))] [] .none (AHeap.push h (.cells [.str [105, 109, 112, 111, 114, 116], .str [97, 115], .str [116, 121, 112, 101], .str [108, 101, 116], .str [102, 117, 110], .str [102, 110], .str [105, 102], .str [116, 104, 101, 110], .str [101, 108, 115, 101], .str [105, 110], .str [97, 110, 100], .str [111, 114], .str [110, 111, 116], .str [114, 111, 108, 108], .str [117, 110, 114, 111, 108, 108], .str [116, 114, 117, 101], .str [102, 97, 108, 115, 101], .str [110, 105, 108], .str [105, 110, 116], .str [98, 111, 111, 108], .str [115, 116, 114], .str [97, 110, 121]] 9 .own 0 0))) :=
  sxF_run [0, 2, 3] (hs := []) (by kernel_rfl) <| .nil
theorem rr2 (call : CallT → List AV → AHeap → FRes) (s : List UInt8) (b : Nat) (c : Cap) (h g : AHeap)
    (H1 : RunF Tryd.prog Tryd.f10 none call [1, 1, 0, 1, 0] (SSt.mk [(4, .int .i64 (.ofNat 0)), (0, .str s), (3, .slice b 0 22 c)] [] .none h) (.exit 0) (SSt.mk [] [] .none g)) :
    RunF Tryd.prog Tryd.f10 none call [1, 1, 0] (SSt.mk [(0, .str s), (3, .slice b 0 22 c)] [] .none h) (.nrm)
      (SSt.mk [] [] .none g) :=
  sxF_run [2] (hs := [Hint.loop (AEx.exit 0) (SSt.mk [] [] Rc.none g)]) (by kernel_rfl) <| .cons H1 <| .nil
theorem rr2t (call : CallT → List AV → AHeap → FRes) (s : List UInt8) (b : Nat) (c : Cap) (h g : AHeap)
    (H1 : RunF Tryd.prog Tryd.f10 none call [1, 1, 0, 1, 0] (SSt.mk [(4, .int .i64 (.ofNat 0)), (0, .str s), (3, .slice b 0 22 c)] [] .none h) (.ret) (SSt.mk [(2, .bool true)] [] .none g)) :
    RunF Tryd.prog Tryd.f10 none call [1, 1, 0] (SSt.mk [(0, .str s), (3, .slice b 0 22 c)] [] .none h) (.ret)
      (SSt.mk [(2, .bool true)] [] .none g) :=
  sxF_run [2] (hs := [Hint.loop AEx.ret (SSt.mk [(2, AV.bool true)] [] Rc.none g)]) (by kernel_rfl) <| .cons H1 <| .nil
theorem rrl_1 (call : CallT → List AV → AHeap → FRes) (s : List UInt8) (b i : Nat) (c : Cap) (h : AHeap) (t_1 : List UInt8)
    (H1 : ltI (.ofNat i) (.ofNat 22) = true)
    (H2 : Nat.le (Nat.succ i) 22)
    (H3 : load1 h b (0 + i * 1) = some (.str t_1))
    (H4 : beqBytes t_1 s = true) :
    RunF Tryd.prog Tryd.f10 none call [1, 1, 0, 1, 0, 0] (SSt.mk [(0, .str s), (3, .slice b 0 22 c), (4, .int .i64 (.ofNat i))] [] .none h) (.ret)
      (SSt.mk [(0, .str s), (2, .bool true), (3, .slice b 0 22 c), (4, .int .i64 (.ofNat i))] [] .none h) :=
  sxF_run [0, 2, 3, 4] (hs := [.b true, .v (.ptr b (0 + i * 1)), .v (.str t_1), .b true]) (by kernel_rfl) <| .cons H1 <| .cons (⟨H2, rfl⟩ : Nat.le (Nat.succ i) 22 ∧ AV.ptr b (0 + i * 1) = AV.ptr b (0 + i * 1)) <| .cons H3 <| .cons H4 <| .nil
theorem rrl_2 (call : CallT → List AV → AHeap → FRes) (s : List UInt8) (b i : Nat) (c : Cap) (h : AHeap) (t_1 : List UInt8) (n_1 : Nat)
    (H1 : ltI (.ofNat i) (.ofNat 22) = true)
    (H2 : Nat.le (Nat.succ i) 22)
    (H3 : load1 h b (0 + i * 1) = some (.str t_1))
    (H4 : beqBytes t_1 s = false)
    (H5 : arith .add .i64 (.ofNat i) (.ofNat 1) = some (.int .i64 (.ofNat n_1))) :
    RunF Tryd.prog Tryd.f10 none call [1, 1, 0, 1, 0, 0] (SSt.mk [(0, .str s), (3, .slice b 0 22 c), (4, .int .i64 (.ofNat i))] [] .none h) (.nrm)
      (SSt.mk [(0, .str s), (3, .slice b 0 22 c), (4, .int .i64 (.ofNat n_1))] [] .none h) :=
  sxF_run [0, 2, 3, 4] (hs := [.b true, .v (.ptr b (0 + i * 1)), .v (.str t_1), .b false, .v (.int .i64 (.ofNat n_1))]) (by kernel_rfl) <| .cons H1 <| .cons (⟨H2, rfl⟩ : Nat.le (Nat.succ i) 22 ∧ AV.ptr b (0 + i * 1) = AV.ptr b (0 + i * 1)) <| .cons H3 <| .cons H4 <| .cons H5 <| .nil
theorem rrl_3 (call : CallT → List AV → AHeap → FRes) (s : List UInt8) (b i : Nat) (c : Cap) (h : AHeap)
    (H1 : ltI (.ofNat i) (.ofNat 22) = false) :
    RunF Tryd.prog Tryd.f10 none call [1, 1, 0, 1, 0, 0] (SSt.mk [(0, .str s), (3, .slice b 0 22 c), (4, .int .i64 (.ofNat i))] [] .none h) (.exit 0)
      (SSt.mk [(0, .str s), (3, .slice b 0 22 c), (4, .int .i64 (.ofNat i))] [] .none h) :=
  sxF_run [0, 2, 3, 4] (hs := [.b false]) (by kernel_rfl) <| .cons H1 <| .nil
theorem rr3 (call : CallT → List AV → AHeap → FRes) (h : AHeap) :
    RunF Tryd.prog Tryd.f10 none call [1, 1, 1] (SSt.mk [] [] .none h) (.ret)
      (SSt.mk [(2, .bool false)] [] .none h) :=
  sxF_run [2] (hs := []) (by kernel_rfl) <| .nil


/-! ### LexWords -/
def asciiL : List Nat := [0, 0, 0, 0, 0, 0, 0, 0, 0, 1, 1, 1, 1, 1, 0, 0, 0, 0, 0, 0, 0, 0, 0, 0, 0, 0, 0, 0, 0, 0, 0, 0, 1, 0, 0, 0, 0, 0, 0, 0, 0, 0, 0, 0, 0, 0, 0, 0, 0, 0, 0, 0, 0, 0, 0, 0, 0, 0, 0, 0, 0, 0, 0, 0, 0, 0, 0, 0, 0, 0, 0, 0, 0, 0, 0, 0, 0, 0, 0, 0, 0, 0, 0, 0, 0, 0, 0, 0, 0, 0, 0, 0, 0, 0, 0, 0, 0, 0, 0, 0, 0, 0, 0, 0, 0, 0, 0, 0, 0, 0, 0, 0, 0, 0, 0, 0, 0, 0, 0, 0, 0, 0, 0, 0, 0, 0, 0, 0, 0, 0, 0, 0, 0, 0, 0, 0, 0, 0, 0, 0, 0, 0, 0, 0, 0, 0, 0, 0, 0, 0, 0, 0, 0, 0, 0, 0, 0, 0, 0, 0, 0, 0, 0, 0, 0, 0, 0, 0, 0, 0, 0, 0, 0, 0, 0, 0, 0, 0, 0, 0, 0, 0, 0, 0, 0, 0, 0, 0, 0, 0, 0, 0, 0, 0, 0, 0, 0, 0, 0, 0, 0, 0, 0, 0, 0, 0, 0, 0, 0, 0, 0, 0, 0, 0, 0, 0, 0, 0, 0, 0, 0, 0, 0, 0, 0, 0, 0, 0, 0, 0, 0, 0, 0, 0, 0, 0, 0, 0, 0, 0, 0, 0, 0, 0, 0, 0, 0, 0, 0, 0, 0, 0, 0, 0, 0, 0]
def firstL : List Nat := [240, 240, 240, 240, 240, 240, 240, 240, 240, 240, 240, 240, 240, 240, 240, 240, 240, 240, 240, 240, 240, 240, 240, 240, 240, 240, 240, 240, 240, 240, 240, 240, 240, 240, 240, 240, 240, 240, 240, 240, 240, 240, 240, 240, 240, 240, 240, 240, 240, 240, 240, 240, 240, 240, 240, 240, 240, 240, 240, 240, 240, 240, 240, 240, 240, 240, 240, 240, 240, 240, 240, 240, 240, 240, 240, 240, 240, 240, 240, 240, 240, 240, 240, 240, 240, 240, 240, 240, 240, 240, 240, 240, 240, 240, 240, 240, 240, 240, 240, 240, 240, 240, 240, 240, 240, 240, 240, 240, 240, 240, 240, 240, 240, 240, 240, 240, 240, 240, 240, 240, 240, 240, 240, 240, 240, 240, 240, 240, 241, 241, 241, 241, 241, 241, 241, 241, 241, 241, 241, 241, 241, 241, 241, 241, 241, 241, 241, 241, 241, 241, 241, 241, 241, 241, 241, 241, 241, 241, 241, 241, 241, 241, 241, 241, 241, 241, 241, 241, 241, 241, 241, 241, 241, 241, 241, 241, 241, 241, 241, 241, 241, 241, 241, 241, 241, 241, 241, 241, 241, 241, 241, 241, 241, 241, 2, 2, 2, 2, 2, 2, 2, 2, 2, 2, 2, 2, 2, 2, 2, 2, 2, 2, 2, 2, 2, 2, 2, 2, 2, 2, 2, 2, 2, 2, 19, 3, 3, 3, 3, 3, 3, 3, 3, 3, 3, 3, 3, 35, 3, 3, 52, 4, 4, 4, 68, 241, 241, 241, 241, 241, 241, 241, 241, 241, 241, 241]
def tabs : List Tab := [⟨1, asciiL⟩, ⟨3, firstL⟩]
def Wl : List Ent := [⟨11, [], .bool true⟩]
def Il : Nat → List AV → AHeap → Option (AV × AHeap) := tabIntrT tabs Wl
noncomputable def C (n : Nat) : CallT → List AV → AHeap → FRes := callN Tryd.prog Il n
noncomputable def H0 (els : Nat → Nat) : AHeap := heapT Tryd.prog.globals.size els tabs []
def words : List (List UInt8) := [[105, 109, 112, 111, 114, 116], [97, 115], [116, 121, 112, 101], [108, 101, 116], [102, 117, 110], [102, 110], [105, 102], [116, 104, 101, 110], [101, 108, 115, 101], [105, 110], [97, 110, 100], [111, 114], [110, 111, 116], [114, 111, 108, 108], [117, 110, 114, 111, 108, 108], [116, 114, 117, 101], [102, 97, 108, 115, 101], [110, 105, 108], [105, 110, 116], [98, 111, 111, 108], [115, 116, 114], [97, 110, 121]]
def inW (s : List UInt8) : Bool := words.any fun w => beqBytes w s
def keysOK : List AEnt → List (List UInt8) → Bool
  | [], [] => true
  | ⟨.str k, .bool true, _⟩ :: es, w :: ws => match beqBytes k w with
    | true => keysOK es ws
    | false => false
  | _, _ => false
def okW : FRes → Bool
  | .ret (.map r) h => match h.get r with
    | some (.map es _) => match keysOK es words with
      | true => match Nat.ble 4 h.n with
        | true => tabsIn h tabs
        | false => false
      | false => false
    | _ => false
  | _ => false
theorem okW_spec {x : FRes} (h : okW x = true) : ∃ r g es c, x = .ret (.map r) g ∧ g.get r = some (.map es c) ∧ keysOK es words = true ∧ 4 ≤ g.n ∧ tabsIn g tabs = true := by
  unfold okW at h
  split at h
  · rename_i r g
    split at h
    · rename_i es c hg
      split at h
      · rename_i hk
        split at h
        · rename_i hn
          exact ⟨r, g, es, c, rfl, hg, hk, Nat.le_of_ble_eq_true hn, h⟩
        · cases h
      · cases h
    · cases h
  · cases h
theorem bb_comm (a b : List UInt8) : beqBytes a b = beqBytes b a := by
  rw [beqBytes_eq, beqBytes_eq, Bool.eq_iff_iff, beq_iff_eq, beq_iff_eq]; exact eq_comm
theorem find_keys (s : List UInt8) : ∀ (es : List AEnt) (ws : List (List UInt8)) (i : Nat), keysOK es ws = true → findA (.str s) es i = some none ∧ (ws.any fun w => beqBytes w s) = false ∨ (∃ j, findA (.str s) es i = some (some (j, .bool true))) ∧ (ws.any fun w => beqBytes w s) = true
  | [], [], i, _ => .inl ⟨rfl, rfl⟩
  | e :: es, [], i, h => by
    obtain ⟨k, v, b⟩ := e
    cases k <;> cases v <;> (try (rename_i x; cases x)) <;> simp [keysOK] at h
  | [], w :: ws, i, h => by simp [keysOK] at h
  | ⟨k, v, b⟩ :: es, w :: ws, i, h => by
    unfold keysOK at h
    split at h
    · rename_i he; cases he
    · rename_i k' b' es' w' ws' h1 h2
      cases h1; cases h2
      split at h
      · rename_i hk
        have hkw : k' = w := by rw [beqBytes_eq] at hk; exact beq_iff_eq.1 hk
        subst hkw
        have hs : sameA (.str s) (.str k') = some (beqBytes s k') := rfl
        cases hx : beqBytes s k' with
        | true =>
          refine .inr ⟨⟨i, ?_⟩, ?_⟩
          · simp only [findA, hs, hx]
          · rw [List.any_cons, bb_comm, hx]; rfl
        | false =>
          have := find_keys s es ws (i + 1) h
          rw [List.any_cons, bb_comm k' s, hx, Bool.false_or]
          simp only [findA, hs, hx]
          exact this
      · cases h
    · cases h
theorem res_run (els : Nat → Nat) : okW (C 60 (.fn 18) [] (H0 els)) = true := by kernel_rfl
theorem lookW {g : AHeap} {r c : Nat} {es : List AEnt} (s : List UInt8) (hg : g.get r = some (.map es c)) (hk : keysOK es words = true) : lookupA Tryd.prog g 46 (.map r) (.str s) false = some (.bool (inW s)) := by
  have hu : Tryd.prog.underlying 46 = some (.map 9 4) := by kernel_rfl
  have hkt : ∀ s : List UInt8, keyT Tryd.prog 9 (.str s) = true := fun s => by kernel_rfl
  have hz : lookFin Tryd.prog 4 false none = some (.bool false) := by kernel_rfl
  unfold lookupA
  rw [hu]
  simp only [hkt, hg]
  rcases find_keys s es words 0 hk with ⟨h1, h2⟩ | ⟨⟨j, h1⟩, h2⟩
  · rw [h1]; simp only [hz]; unfold inW; rw [h2]
  · rw [h1]; unfold inW; rw [h2]; rfl
theorem reserved_c (els : Nat → Nat) (s : List UInt8) : ∃ g, C 61 (.fn 9) [.str s] (H0 els) = .ret (.bool (inW s)) g ∧ 4 ≤ g.n ∧ tabsIn g tabs = true := by
  obtain ⟨r, g, es, c, h1, h2, h3, h5, h4⟩ := okW_spec (res_run els)
  exact ⟨g, fn_runF (intr := Il) (n := 60) (args := [.str s]) Tryd.func9 (by kernel_rfl) rfl (by kernel_rfl) (rv (C 60) s (inW s) r (H0 els) g h1 (lookW s h2 h3)) (.inl rfl) (by kernel_rfl), h5, h4⟩
theorem nth_words : ∀ (ws : List (List UInt8)) (i : Nat) (hi : i < ws.length), nth i (ws.map AV.str) = some (.str ws[i])
  | [], i, hi => by simp at hi
  | x :: l, 0, hi => rfl
  | x :: l, i + 1, hi => by
    have := nth_words l i (by simpa using hi)
    simpa [nth] using this
theorem rrl_loop (call : CallT → List AV → AHeap → FRes) (s : List UInt8) (b : Nat) (c : Cap) (h : AHeap) (hl : ∀ i (hi : i < 22), load1 h b (0 + i * 1) = some (.str words[i])) : ∀ (k i : Nat), 22 - i = k → i ≤ 22 →
    ((words.drop i).any fun w => beqBytes w s) = true ∧ LoopF Tryd.prog Tryd.f10 none call [1, 1, 0, 1, 0] (k + 1) ⟨[(0, .str s), (3, .slice b 0 22 c), (4, .int .i64 (Int.ofNat i))], [], .none, h⟩ .ret ⟨[(2, .bool true)], [], .none, h⟩ ∨
    ((words.drop i).any fun w => beqBytes w s) = false ∧ LoopF Tryd.prog Tryd.f10 none call [1, 1, 0, 1, 0] (k + 1) ⟨[(0, .str s), (3, .slice b 0 22 c), (4, .int .i64 (Int.ofNat i))], [], .none, h⟩ (.exit 0) ⟨[], [], .none, h⟩
  | 0, i, hk, hi => by
    obtain rfl : i = 22 := by omega
    exact .inr ⟨rfl, .exit (RunP.post (rrl_3 call s b 22 c h (lt_f (by omega))) trivial) (by simp)⟩
  | k + 1, i, hk, hi => by
    have hii : i < 22 := by omega
    have hw : i < words.length := hii
    rw [List.drop_eq_getElem_cons hw, List.any_cons]
    cases hx : beqBytes words[i] s with
    | true => exact .inl ⟨rfl, .exit (RunP.post (rrl_1 call s b i c h _ (lt_t hii) hii (hl i hii) hx) ⟨rfl, trivial⟩) (by simp)⟩
    | false =>
      rw [Bool.false_or]
      have st := rrl_2 call s b i c h _ (i + 1) (lt_t hii) hii (hl i hii) hx (add1 hii (by decide))
      rcases rrl_loop call s b c h hl k (i + 1) (by omega) (by omega) with ⟨h1, h2⟩ | ⟨h1, h2⟩
      · exact .inl ⟨h1, .step st h2⟩
      · exact .inr ⟨h1, .step st h2⟩
theorem rreserved_c (m : Nat) (s : List UInt8) (h : AHeap) : ∃ g, C (m + 1) (.fn 10) [.str s] h = .ret (.bool (inW s)) g ∧ Ext h.n h g := by
  obtain ⟨H, hH⟩ : ∃ H, H = h.push (.cells (words.map AV.str) 9 .own 0 0) := ⟨_, rfl⟩
  have xH : Ext h.n h H := by rw [hH]; exact Ext.pushR (Nat.le_refl _) (Ext.refl _ _)
  have gH : H.get h.n = some (.cells (words.map AV.str) 9 .own 0 0) := by rw [hH]; exact gtop rfl
  have s0 := rr0 (C m) s h
  have s1 : RunF Tryd.prog Tryd.f10 none (C m) [1, 0] ⟨[(0, .str s), (2, .bool false)], [], .none, h⟩ .nrm ⟨[(0, .str s), (3, .slice h.n 0 22 (.exact 22))], [], .none, H⟩ := by
    rw [hH]; exact RunP.pre (rr1 (C m) s h) ⟨rfl, trivial⟩ rfl rfl rfl
  have hl : ∀ i (hi : i < 22), load1 H h.n (0 + i * 1) = some (.str words[i]) := fun i hi => by
    have e : 0 + i * 1 = i := by omega
    simp only [load1, gH, e, nth_words words i hi]
  rcases rrl_loop (C m) s h.n (.exact 22) H hl 22 0 rfl (by omega) with ⟨h1, h2⟩ | ⟨h1, h2⟩
  · have lp := LoopF.run (p := [1, 1, 0, 1, 0]) (by kernel_rfl) h2 (by omega)
    have s2 := rr2t (C m) s h.n (.exact 22) H H (RunP.pre lp ⟨rfl, rfl, rfl, trivial⟩ rfl rfl rfl)
    have e : inW s = true := h1
    rw [e]
    exact ⟨H, fn_runF (intr := Il) (n := m) (args := [.str s]) Tryd.func10 (by kernel_rfl) rfl (by kernel_rfl) (RunF.seq (p := []) (by kernel_rfl) s0 (RunF.seq (p := [1]) (by kernel_rfl) s1 (RunF.seqx (p := [1, 1]) (by kernel_rfl) s2 (by simp)))) (.inl rfl) (by kernel_rfl), xH⟩
  · have lp := LoopF.run (p := [1, 1, 0, 1, 0]) (by kernel_rfl) h2 (by omega)
    have s2 := rr2 (C m) s h.n (.exact 22) H H (RunP.pre lp ⟨rfl, rfl, rfl, trivial⟩ rfl rfl rfl)
    have e : inW s = false := h1
    rw [e]
    exact ⟨H, fn_runF (intr := Il) (n := m) (args := [.str s]) Tryd.func10 (by kernel_rfl) rfl (by kernel_rfl) (RunF.seq (p := []) (by kernel_rfl) s0 (RunF.seq (p := [1]) (by kernel_rfl) s1 (RunF.seq (p := [1, 1]) (by kernel_rfl) s2 (rr3 (C m) H)))) (.inl rfl) (by kernel_rfl), xH⟩
theorem tabs_ext {h g : AHeap} (hi : tabsIn h tabs = true) (hn : 4 ≤ h.n) (x : Ext h.n h g) : tabsIn g tabs = true := tabsIn_of fun t ht => by
  obtain ⟨el, hg⟩ := isTab_get (tabsIn_mem hi t ht)
  have hlt : t.g < 4 := by
    simp only [tabs, List.mem_cons, List.not_mem_nil, or_false] at ht
    rcases ht with rfl | rfl <;> decide
  exact isTab_of ((x.get t.g (by omega)).trans hg)
theorem words_c (els : Nat → Nat) (s : List UInt8) : ∃ h', C 62 (.fn 3) [.str s] (H0 els) = .ret (.bool true) h' := by
  obtain ⟨g1, c1, n1, t1⟩ := reserved_c els s
  obtain ⟨g2, c2, x2⟩ := rreserved_c 60 s g1
  have t2 := tabs_ext t1 n1 x2
  have hi : Il 11 [] g2 = some (.bool true, g2) := by
    have e : tabIntr Wl 11 [] g2 = some (.bool true, g2) := rfl
    simp only [Il, tabIntrT, e, t2]
  have c3 : C 61 (.fn 11) [] g2 = .ret (.bool true) g2 := by simp only [C, callN, hi]
  have hb : ∀ b : Bool, binA Tryd.prog g2 BinOp.eql 4 (Operand.tmp 4) (Operand.tmp 6) (.bool b) (.bool b) = some (.bool true) := fun b => by cases b <;> rfl
  exact ⟨g2, fn_runF (intr := Il) (n := 61) (args := [.str s]) Tryd.func3 (by kernel_rfl) rfl (by kernel_rfl) (lw (C 61) s (inW s) (H0 els) g1 g2 g2 c1 c2 (hb _) c3) (.inl rfl) (by kernel_rfl)⟩
theorem tabs_lt : ∀ t ∈ tabs, t.g < Tryd.prog.globals.size := fun t ht => by
  have h4 : Nat.ble 4 Tryd.prog.globals.size = true := by kernel_rfl
  have h4' := Nat.le_of_ble_eq_true h4
  have hlt : t.g < 4 := by
    simp only [tabs, List.mem_cons, List.not_mem_nil, or_false] at ht
    rcases ht with rfl | rfl <;> decide
  omega
theorem ent_works (hf : Fit Tryd.prog) : EntT Tryd.prog tabs ⟨11, [], .bool true⟩ := ⟨tabIntrT tabs [], 60, tabT_ok hf tabs_lt (by simp), fun els => by kernel_rfl⟩
theorem Il_ok (hf : Fit Tryd.prog) : IntrOK Tryd.prog Il := tabT_ok hf tabs_lt fun e he => by
  obtain rfl : e = _ := by simpa [Wl] using he
  exact ent_works hf
theorem strt : Tryd.prog.underlying 9 = some .string := by kernel_rfl
theorem tabs_at {W : World} {g1 g3 t1 t3 f1 f3 : Nat} {cs1 cs3 : Array Value} {p1 p3 : List MemPlace} {d1 d3 : DataW Unit}
    (hg1 : Tryd.prog.globalNamed "strings.asciiSpace" = some g1) (ht1 : (Tryd.prog.globals[g1]?).map (·.type) = some t1) (hv1 : W.var? Tryd.prog "strings.asciiSpace" = some cs1) (hd1 : DataW.trod (fun _ => ()) Tryd.prog W 0 (fun _ => true) false f1 t1 cs1.toList = some (d1, p1)) (hx1 : d1 = .agg (asciiL.map fun x => .lit (.int .u8 (Int.ofNat x))))
    (hg3 : Tryd.prog.globalNamed "unicode/utf8.first" = some g3) (ht3 : (Tryd.prog.globals[g3]?).map (·.type) = some t3) (hv3 : W.var? Tryd.prog "unicode/utf8.first" = some cs3) (hd3 : DataW.trod (fun _ => ()) Tryd.prog W 0 (fun _ => true) false f3 t3 cs3.toList = some (d3, p3)) (hx3 : d3 = .agg (firstL.map fun x => .lit (.int .u8 (Int.ofNat x)))) :
    ∀ t ∈ tabs, t.g < Tryd.prog.globals.size ∧ TabAt W (elsW W) t := by
  have e1 : g1 = 1 := Option.some.inj (hg1.symm.trans (by kernel_rfl))
  have e3 : g3 = 3 := Option.some.inj (hg3.symm.trans (by kernel_rfl))
  subst e1; subst e3
  have u1 : t1 = 86 := Option.some.inj (ht1.symm.trans (by kernel_rfl))
  have u3 : t3 = 86 := Option.some.inj (ht3.symm.trans (by kernel_rfl))
  subst u1; subst u3
  have ha : Tryd.prog.underlying 86 = some (.array 256 5) := by kernel_rfl
  have hu : Tryd.prog.underlying 5 = some (.int .u8) := by kernel_rfl
  have hc : Tryd.prog.cellsOf 5 = 1 := by kernel_rfl
  intro t ht
  refine ⟨tabs_lt t ht, ?_⟩
  simp only [tabs, List.mem_cons, List.not_mem_nil, or_false] at ht
  rcases ht with rfl | rfl
  · exact tab_laid ha hu hc hg1 hv1 hd1 asciiL hx1
  · exact tab_laid ha hu hc hg3 hv3 hd3 firstL hx3
end Go.Proofs.Lexw
