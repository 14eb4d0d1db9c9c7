/-
  PROVED HERE: contracts of functions (Dh). No condition beside each statement's own.
-/
import Derived.Test.YtbndinilpflomaaDg
import Derived.Test.YtbndinilpflomaaDp
import Derived.Test.YtbndinilpflomaaDa
set_option linter.unusedVariables false
set_option linter.unusedSimpArgs false
namespace Go.Proofs.Wire
open Go AEv Go.Proofs Go.Proofs.Enc
set_option maxRecDepth 100000
set_option maxHeartbeats 1000000

/-! ### msg.Decode, and the document's -/
def mdA (s : List UInt8) : Nat := (numS (some s)).1
def mdS1 (s : List UInt8) : RdS := (numS (some s)).2
def mdS2 (s : List UInt8) : RdS := (textS (mdS1 s)).2
def mdS3 (s : List UInt8) : RdS := (textS (mdS2 s)).2
def mdS4 (s : List UInt8) : RdS := (textS (mdS3 s)).2
def mdT1 (s : List UInt8) : List UInt8 := (textS (mdS1 s)).1
def mdT2 (s : List UInt8) : List UInt8 := (textS (mdS2 s)).1
def mdT3 (s : List UInt8) : List UInt8 := (textS (mdS3 s)).1
def mdC (s : List UInt8) : Nat := chkN (Int.ofNat (mdA s)) (mdT1 s) (mdT2 s) (mdT3 s)
def mdOK (s : List UInt8) : Prop := endS (mdS4 s) = true ∧ mdC s = 0
instance (s : List UInt8) : Decidable (mdOK s) := by unfold mdOK; exact inferInstance
end Go.Proofs.Wire

namespace Go.Proofs.Wire
open Go AEv Go.Proofs Go.Proofs.Enc
set_option maxRecDepth 100000
set_option maxHeartbeats 1000000

theorem a0 (call : CallT → List AV → AHeap → FRes) (s : List UInt8) (h : AHeap) :
    RunF Try.prog Try.f35 none call [0] (SSt.mk [(0, .str s)] [] .none h) (.nrm)
      (SSt.mk [(0, .str s), (2, .ptr (AHeap.n h) 0)] [] .none (AHeap.push h (.cells [.int .i64 (.ofNat 0), .str [], .nilS, .nilS, .int .u64 (.ofNat 0)] 54 .own 0 0))) :=
  sxF_run [0, 2] (hs := []) (by kernel_rfl) <| .nil
theorem a1 (call : CallT → List AV → AHeap → FRes) (s : List UInt8) (a p : Nat) (h g : AHeap)
    (H1 : call (.fn 55) [.str s] h = FRes.ret (.ptr p 0) g) :
    RunF Try.prog Try.f35 none call [1, 0] (SSt.mk [(0, .str s), (2, .ptr a 0)] [] .none h) (.nrm)
      (SSt.mk [(2, .ptr a 0), (4, .ptr p 0)] [] .none g) :=
  sxF_run [2, 4] (hs := [.c (.ptr p 0) g]) (by kernel_rfl) <| .cons H1 <| .nil
theorem a2 (call : CallT → List AV → AHeap → FRes) (a p : Nat) (h : AHeap) (n_1 : Nat) (g_1 : AHeap) (t_1 : List UInt8) (g_2 g_3 : AHeap)
    (H1 : call (.fn 56) [.ptr p 0] h = FRes.ret (.int .u64 (.ofNat n_1)) g_1)
    (H2 : call (.fn 58) [.ptr p 0] g_1 = FRes.ret (.str t_1) g_2)
    (H3 : AEv.storeCells (AHeap.push g_2 (.cells [.int .u64 (.ofNat 0), .str [], .int .u64 (.ofNat 0)] 94 .own 0 0)) (AHeap.n g_2) 0 [.int .u64 (.ofNat n_1), .str t_1, .int .u64 (.ofNat 0)] = some g_3) :
    RunF Try.prog Try.f35 none call [1, 1, 0] (SSt.mk [(2, .ptr a 0), (4, .ptr p 0)] [] .none h) (.nrm)
      (SSt.mk [(2, .ptr a 0), (4, .ptr p 0), (5, .ptr (AHeap.n g_2) 0)] [] .none g_3) :=
  sxF_run [2, 4, 5] (hs := [.c (.int .u64 (.ofNat n_1)) g_1, .c (.str t_1) g_2, .vh (.tup []) g_3]) (by kernel_rfl) <| .cons H1 <| .cons H2 <| .cons (⟨by kernel_rfl, H3, rfl⟩ : some 3 = some 3 ∧ AEv.storeCells (AHeap.push g_2 (AObj.cells [AV.int IntKind.u64 (Int.ofNat 0), AV.str [], AV.int IntKind.u64 (Int.ofNat 0)] 94 BK.own 0 0)) (AHeap.n g_2) 0 [AV.int IntKind.u64 (Int.ofNat n_1), AV.str t_1, AV.int IntKind.u64 (Int.ofNat 0)] = some g_3 ∧ AV.tup [] = AV.tup []) <| .nil
theorem a3 (call : CallT → List AV → AHeap → FRes) (a p q : Nat) (h : AHeap) :
    RunF Try.prog Try.f35 none call [1, 1, 1, 0] (SSt.mk [(2, .ptr a 0), (4, .ptr p 0), (5, .ptr q 0)] [] .none h) (.nrm)
      (SSt.mk [(2, .ptr a 0), (4, .ptr p 0), (5, .ptr q 0), (6, .nilS)] [] .none h) :=
  sxF_run [2, 4, 5, 6] (hs := []) (by kernel_rfl) <| .nil
theorem a4 (call : CallT → List AV → AHeap → FRes) (a p q : Nat) (w : AV) (h g : AHeap) (n_1 : Nat) (g_1 : AHeap)
    (H1 : call (.fn 56) [.ptr p 0] h = FRes.ret (.int .u64 (.ofNat n_1)) g_1)
    (H2 : RunF Try.prog Try.f35 none call [1, 1, 1, 1, 0, 1, 0] (SSt.mk [(7, .int .u64 (.ofNat n_1)), (2, .ptr a 0), (4, .ptr p 0), (5, .ptr q 0), (6, .nilS)] [] .none g_1) (.exit 0) (SSt.mk [(2, .ptr a 0), (4, .ptr p 0), (5, .ptr q 0), (6, w)] [] .none g)) :
    RunF Try.prog Try.f35 none call [1, 1, 1, 1, 0] (SSt.mk [(2, .ptr a 0), (4, .ptr p 0), (5, .ptr q 0), (6, .nilS)] [] .none h) (.nrm)
      (SSt.mk [(2, .ptr a 0), (4, .ptr p 0), (5, .ptr q 0), (6, w)] [] .none g) :=
  sxF_run [2, 4, 5, 6] (hs := [Hint.c (AV.int IntKind.u64 (Int.ofNat n_1)) g_1, Hint.loop (AEx.exit 0) (SSt.mk [(2, AV.ptr a 0), (4, AV.ptr p 0), (5, AV.ptr q 0), (6, w)] [] Rc.none g)]) (by kernel_rfl) <| .cons H1 <| .cons H2 <| .nil
theorem a5 (call : CallT → List AV → AHeap → FRes) (a p q e : Nat) (w wd : AV) (h g : AHeap) (t_1 : List UInt8) (g_1 : AHeap)
    (H1 : call (.fn 58) [.ptr p 0] h = FRes.ret (.str t_1) g_1)
    (H2 : call (.fn 22) [.str t_1] g_1 = FRes.ret (.tup [wd, .int .i64 (.ofNat e)]) g) :
    RunF Try.prog Try.f35 none call [1, 1, 1, 1, 1, 0] (SSt.mk [(2, .ptr a 0), (4, .ptr p 0), (5, .ptr q 0), (6, w)] [] .none h) (.nrm)
      (SSt.mk [(2, .ptr a 0), (4, .ptr p 0), (5, .ptr q 0), (6, w), (8, wd), (9, .int .i64 (.ofNat e))] [] .none g) :=
  sxF_run [2, 4, 5, 6, 8, 9] (hs := [.c (.str t_1) g_1, .c (.tup [wd, .int .i64 (.ofNat e)]) g]) (by kernel_rfl) <| .cons H1 <| .cons H2 <| .nil
theorem b0 (call : CallT → List AV → AHeap → FRes) (s : List UInt8) (h : AHeap) :
    RunF Try.prog Try.f36 none call [0] (SSt.mk [(0, .str s)] [] .none h) (.nrm)
      (SSt.mk [(0, .str s), (2, .ptr (AHeap.n h) 0)] [] .none (AHeap.push h (.cells [.int .i64 (.ofNat 0), .str [], .nilS, .nilS, .int .u64 (.ofNat 0)] 54 .own 0 0))) :=
  sxF_run [0, 2] (hs := []) (by kernel_rfl) <| .nil
theorem b1 (call : CallT → List AV → AHeap → FRes) (s : List UInt8) (a : Nat) (h : AHeap) :
    RunF Try.prog Try.f36 none call [1, 0] (SSt.mk [(0, .str s), (2, .ptr a 0)] [] .none h) (.nrm)
      (SSt.mk [(2, .ptr a 0), (4, .ptr (AHeap.n h) 0)] [] .none (AHeap.push h (.cells [.str s, .bool false] 78 .own 0 0))) :=
  sxF_run [2, 4] (hs := []) (by kernel_rfl) <| .nil
theorem b2 (call : CallT → List AV → AHeap → FRes) (a p : Nat) (h : AHeap) (n_1 : Nat) (g_1 : AHeap) (n_2 n_3 : Nat) (t_1 : List UInt8) (g_2 g_3 : AHeap)
    (H1 : call (.fn 60) [.ptr p 0] h = FRes.ret (.int .u64 (.ofNat n_1)) g_1)
    (H2 : foldA minA (AV.int IntKind.u64 (Int.ofNat n_1)) [AV.int IntKind.u64 (Int.ofNat 100)] = some (AV.int IntKind.u64 (Int.ofNat n_2)))
    (H3 : evConvert Try.prog 52 29 (AV.int IntKind.u64 (Int.ofNat n_2)) g_1 = OpRes.val (AV.int IntKind.i64 (Int.ofNat n_3)) g_1)
    (H4 : call (.fn 62) [.ptr p 0] g_1 = FRes.ret (.str t_1) g_2)
    (H5 : AEv.storeCells (AHeap.push g_2 (.cells [.int .i64 (.ofNat 0), .str [], .nilS, .nilS, .int .u64 (.ofNat 0)] 54 .own 0 0)) (AHeap.n g_2) 0 [.int .i64 (.ofNat n_3), .str t_1, .nilS, .nilS, .int .u64 (.ofNat 0)] = some g_3) :
    RunF Try.prog Try.f36 none call [1, 1, 0] (SSt.mk [(2, .ptr a 0), (4, .ptr p 0)] [] .none h) (.nrm)
      (SSt.mk [(2, .ptr a 0), (4, .ptr p 0), (5, .ptr (AHeap.n g_2) 0)] [] .none g_3) :=
  sxF_run [2, 4, 5] (hs := [.c (.int .u64 (.ofNat n_1)) g_1, .v (.int .u64 (.ofNat n_2)), .v (.int .i64 (.ofNat n_3)), .c (.str t_1) g_2, .vh (.tup []) g_3]) (by kernel_rfl) <| .cons H1 <| .cons H2 <| .cons H3 <| .cons H4 <| .cons (⟨by kernel_rfl, H5, rfl⟩ : some 5 = some 5 ∧ AEv.storeCells (AHeap.push g_2 (AObj.cells [AV.int IntKind.i64 (Int.ofNat 0), AV.str [], AV.nilS, AV.nilS, AV.int IntKind.u64 (Int.ofNat 0)] 54 BK.own 0 0)) (AHeap.n g_2) 0 [AV.int IntKind.i64 (Int.ofNat n_3), AV.str t_1, AV.nilS, AV.nilS, AV.int IntKind.u64 (Int.ofNat 0)] = some g_3 ∧ AV.tup [] = AV.tup []) <| .nil
theorem b3 (call : CallT → List AV → AHeap → FRes) (a p q : Nat) (h : AHeap) (n_1 : Nat) (g_1 : AHeap)
    (H1 : call (.fn 60) [.ptr p 0] h = FRes.ret (.int .u64 (.ofNat n_1)) g_1) :
    RunF Try.prog Try.f36 none call [1, 1, 1, 0] (SSt.mk [(2, .ptr a 0), (4, .ptr p 0), (5, .ptr q 0)] [] .none h) (.nrm)
      (SSt.mk [(2, .ptr a 0), (4, .ptr p 0), (5, .ptr q 0), (6, .int .u64 (.ofNat n_1))] [] .none g_1) :=
  sxF_run [2, 4, 5, 6] (hs := [.c (.int .u64 (.ofNat n_1)) g_1]) (by kernel_rfl) <| .cons H1 <| .nil
/-! ### msg.Answered -/
abbrev encS (s : List UInt8) : List AV := [.str s]
theorem strRow : RowTy Try.prog encS 1 9 38 where
  hu := by kernel_rfl
  hsrc := by kernel_rfl
  info := by
    obtain ⟨i, hi⟩ := Option.isSome_iff_exists.1 (show (Try.prog.info? 9).isSome = true by kernel_rfl)
    refine ⟨i, hi, ?_, ?_⟩
    · have : (Try.prog.info? 9).map (·.size) = some 1 := by kernel_rfl
      rw [hi] at this; simpa using this
    · have : (Try.prog.info? 9).map (fun i => Nat.ble i.bytes 1000) = some true := by kernel_rfl
      rw [hi] at this
      exact Nat.le_of_ble_eq_true (by simpa using this)
  zero := ⟨.str [], by kernel_rfl, rfl⟩
  size := by kernel_rfl
  len := fun _ => rfl
  cell := fun _ => rfl
  pos := by decide
section
variable {D : Type} {enc : D → List AV} {w : Nat} {el : TypeId}
/-- A row of any capacity. -/
def RowK (enc : D → List AV) (w : Nat) (el : TypeId) (B : Nat) (h : AHeap) (v : AV) (ds : List D) : Prop :=
  (v = .nilS ∧ ds = []) ∨ ∃ p c, v = .slice p 0 ds.length c ∧ (0 < ds.length ∧ c ≠ .dead) ∧ h.get p = some (.cells (rowL enc ds) el .opn 0 0) ∧ B ≤ p ∧ p < h.n
theorem OutG.rowK {B : Nat} {h : AHeap} {v : AV} {ds : List D} (ho : OutG enc w el B h v ds) : RowK enc w el B h v ds := by
  rcases ho with ho | ⟨p, h1, h2, h3, h4, h5⟩
  · exact .inl ho
  · exact .inr ⟨p, _, h1, ⟨h2, by simp⟩, h3, h4, h5⟩
theorem RowK.setOwn {B : Nat} {h : AHeap} {v : AV} {ds : List D} (ho : RowK enc w el B h v ds) {c : Nat} {cs : List AV} {el' : Nat} {o : Option AObj} (hc : h.get c = some (.cells cs el' .own 0 0)) : RowK enc w el B (h.set c o) v ds := by
  rcases ho with ho | ⟨p, k, h1, h2, h3, h4, h5⟩
  · exact .inl ho
  · exact .inr ⟨p, k, h1, h2, gother (fun e => by subst e; rw [hc] at h3; cases h3) h3, h4, by simpa using h5⟩
theorem RowK.mono {B B' : Nat} {h h' : AHeap} {v : AV} {ds : List D} (ho : RowK enc w el B h v ds) (e : Ext B' h h') (hB : h.n ≤ B') : RowK enc w el B h' v ds := by
  rcases ho with ho | ⟨p, k, h1, h2, h3, h4, h5⟩
  · exact .inl ho
  · exact .inr ⟨p, k, h1, h2, (e.get p (by omega)).trans h3, h4, Nat.lt_of_lt_of_le h5 e.n⟩
end
end Go.Proofs.Wire
